/- A ring's life, drawn and played by the reference. -/
import Derived.Test.YtlgnmloddedbaaaGreatCPRingL
set_option linter.unusedSimpArgs false
set_option linter.unusedVariables false
namespace Go.TM
open Go
theorem NU {v : Int} (h : (v, ()) ∈ [((1 : Int), ()), (1, ()), (1, ()), (2, ()), (2, ()), (2, ()), (2, ()), (2, ()), (2, ()), (3, ()), (3, ()), (4, ()), (5, ()), (6, ()), (7, ()), (7, ())]) : 1 ≤ v ∧ v ≤ 7 := by
 simp only [List.mem_cons, Prod.mk.injEq, and_true, List.not_mem_nil, or_false] at h; omega
theorem SR (code : List (Int × Unit)) (at_ rL : Int) (h : fF code at_) : ∃ v I7 s', mQ code at_ rL = some (v, code, I7, s', ()) ∧ ByteArray.size v ≤ 3 ∧ fF code I7 := by
 obtain ⟨v, a1, s1, e1, hv, d1⟩ := QI code at_ rL [((ByteArray.mk #[97, 110, 110]), ()), ((ByteArray.mk #[98, 111, 98]), ()), ((ByteArray.mk #[99, 121]), ()), ((ByteArray.mk #[100, 52]), ()), ((ByteArray.mk #[101, 118, 101]), ())] h (by decide); refine ⟨v, a1, s1, ?_, ?_, d1⟩
 · unfold mQ; rw [e1]; rfl
 · simp only [List.mem_cons, Prod.mk.injEq, and_true, List.not_mem_nil, or_false] at hv; rcases hv with rfl | rfl | rfl | rfl | rfl <;> decide
theorem QM (code : List (Int × Unit)) {n : Nat} {c : Int} {ms : bV} {w : aX} (h : cW n c ms w) (hn : n ≤ 1000) {v id b : Int} (hv : 1 ≤ v ∧ v ≤ 7) (pM : (id, ()) ∈ ms) (hb : 0 ≤ b) (a s : Int) (d : fF code a) :
   ∃ (e : lF) (a' s' : Int), lM code a s w.1 w.2.1 w.2.2.1 w.2.2.2.1 w.2.2.2.2.1 w.2.2.2.2.2.1 0 0 0 0 ByteArray.empty v id b 0 ByteArray.empty = some (e.1, e.2.1, e.2.2.1, e.2.2.2.1, e.2.2.2.2.1, code, a', s', w.1, w.2.1, w.2.2.1, w.2.2.2.1, w.2.2.2.2.1, w.2.2.2.2.2.1, ()) ∧ Ci ms e ∧ fF code a' := by
 have hf := h.vn; unfold lM
 by_cases k2 : v = 2
 · obtain ⟨e, he, a', s', b', rfl, d', lV⟩ := dV (round := gX) (x := (code, a, s, w.1, w.2.1, w.2.2.1, w.2.2.2.1, w.2.2.2.2.1, w.2.2.2.2.2.1, (0 : Int), (0 : Int), (0 : Int), (0 : Int), ByteArray.empty, v, id, b, (0 : Int), ByteArray.empty, ((0 : Nat) : Int), ())) w.2.2.2.1.length
     (fun k x => ∃ a s b, x = (code, a, s, w.1, w.2.1, w.2.2.1, w.2.2.2.1, w.2.2.2.2.1, w.2.2.2.2.2.1, (0 : Int), (0 : Int), (0 : Int), (0 : Int), ByteArray.empty, v, id, b, (0 : Int), ByteArray.empty, ((k : Nat) : Int), ()) ∧ fF code a ∧ 0 ≤ b)
     (fun e => ∃ a s b, e = .inl (code, a, s, w.1, w.2.1, w.2.2.1, w.2.2.2.1, w.2.2.2.2.1, w.2.2.2.2.2.1, (0 : Int), (0 : Int), (0 : Int), (0 : Int), ByteArray.empty, v, id, b, (0 : Int), ByteArray.empty, ()) ∧ fF code a ∧ 0 ≤ b) (by
       rintro x ⟨a, s, b, rfl, d, hb⟩
       exact ⟨_, by simp only [gX, o8, az, cond_false], a, s, b, rfl, d, hb⟩) (by
       rintro k x hk ⟨a, s, b, rfl, d, hb⟩
       simp only [gX, o8, aw hk, ak, cond_true, au, List.getElem?_eq_getElem hk, Option.bind_some, aC (show k < 4611686018427387904 by omega)]
       cases (w.2.2.2.1[k]).2.1
       · exact .inr ⟨_, rfl, a, s, b, rfl, d, hb⟩
       · obtain ⟨o, a1, s1, e1, d1⟩ := L4 code a s 4 d (by omega); simp only [e1, Option.bind_some, cond_true]
         cases o
         · exact .inr ⟨_, rfl, a1, s1, ((k : Nat) : Int), rfl, d1, by omega⟩
         · exact .inr ⟨_, rfl, a1, s1, b, rfl, d1, hb⟩) ⟨a, s, b, rfl, d, hb⟩
   have he : aA gX (code, a, s, w.1, w.2.1, w.2.2.1, w.2.2.2.1, w.2.2.2.2.1, w.2.2.2.2.2.1, (0 : Int), (0 : Int), (0 : Int), (0 : Int), ByteArray.empty, v, id, b, (0 : Int), ByteArray.empty, (0 : Int), ()) = _ := he; refine ⟨(v, id, b', 0, ByteArray.empty, ()), a', s', ?_, ⟨hv, pM, lV, fun h1 => ?_, fun _ => ⟨rfl, rfl⟩⟩, d'⟩
   · simp only [af k2, cond_true, he, bz, Option.bind_some, ai (show ¬ v = 1 by omega), cond_false]
   · have h1 : v = 1 := h1; omega
 by_cases k1 : v = 1
 · obtain ⟨l, a1, s1, e1, l0, l1, d1⟩ := rE code a s 2 d (by omega); obtain ⟨t, a2, s2, e2, ht, d2⟩ := SR code a1 s1 d1; refine ⟨(v, id, b, 1 + l, t, ()), a2, s2, ?_, ⟨hv, pM, hb, fun _ => ⟨by show 1 ≤ 1 + l ∧ 1 + l ≤ 2; omega, by show ByteArray.size t ≤ 60; omega⟩, fun h1 => absurd k1 h1⟩, d2⟩; simp only [ai k2, af k1, cond_false, cond_true, e1, e2, Option.bind_some]; rw [fP (show -9223372036854775808 ≤ 1 + l by omega) (by omega)]
 · refine ⟨(v, id, b, 0, ByteArray.empty, ()), a, s, ?_, ⟨hv, pM, hb, fun h1 => absurd h1 k1, fun _ => ⟨rfl, rfl⟩⟩, d⟩; simp only [ai k2, ai k1, cond_false]
theorem YA (code : List (Int × Unit)) (a s : Int) (d : fF code a) {n : Nat} {c : Int} {ms : bV} {w : aX} (h : cW n c ms w) (hn : n ≤ 1000) :
   ∃ (e : lF) (a' s' : Int), pZ code a s w.1 w.2.1 w.2.2.1 w.2.2.2.1 w.2.2.2.2.1 w.2.2.2.2.2.1 = some (e.1, e.2.1, e.2.2.1, e.2.2.2.1, e.2.2.2.2.1, code, a', s', w.1, w.2.1, w.2.2.1, w.2.2.2.1, w.2.2.2.2.1, w.2.2.2.2.2.1, ()) ∧ Ci ms e ∧ fF code a' := by
 obtain ⟨q0, q1, q2⟩ := h.Bc; have hr := h.ring.2.1.1; have hms := h.self.2; obtain ⟨v, a1, s1, e1, hv, d1⟩ := SO code a s [((1 : Int), ()), (1, ()), (1, ()), (2, ()), (2, ()), (2, ()), (2, ()), (2, ()), (2, ()), (3, ()), (3, ()), (4, ()), (5, ()), (6, ()), (7, ()), (7, ())] d (by decide); obtain ⟨i, a2, s2, e2, i0, i1, d2⟩ := rE code a1 s1 ((List.length w.2.1 : Nat) : Int) d1 (by rw [hms]; omega); obtain ⟨b, a3, s3, e3, b0, b1, d3⟩ := rE code a2 s2 30 d2 (by omega); obtain ⟨i, rfl⟩ := Int.eq_ofNat_of_zero_le i0; have hi : i < w.2.1.length := by omega
 obtain ⟨e, a', s', e4, he, d'⟩ := QM code h hn (NU hv) (show ((w.2.1[i]).1, ()) ∈ ms by rw [← hms]; exact List.getElem_mem hi) b0 a3 s3 d3; refine ⟨e, a', s', ?_, he, d'⟩; unfold pZ; simp only [e1, e2, e3, Option.bind_some, ak, cond_true, au, List.getElem?_eq_getElem hi, bZ]; exact e4
end Go.TM
set_option linter.unusedSimpArgs false
set_option linter.unusedVariables false
namespace Go.TM
open Go
theorem Gf {c : Int} {ms : bV} (h : I8 c ms) : lk c ms := ⟨⟨h.zP, h.id2⟩, ⟨h.some_, h.len⟩, fun k hk _ => ⟨by have := h.rising.2.1 k hk; omega, fun h0 => h.rising.2.2 (k - 1) k (by omega) hk (by omega)⟩⟩
theorem K5 {c : Int} {ms : bV} (h : lk c ms) {id : Int} (pM : (id, ()) ∈ ms) : pH (dM c ms id) := {
 ring := h
 mem := pM
 items := fun k hk => by cases hk
 texts := ⟨Nat.zero_le _, rfl⟩
 Og := fun j hj => by cases hj
 short := fun j hj => by cases hj
 round := ⟨Int.le_refl _, show (0 : Int) ≤ 1000000000 by decide⟩
 seen := ⟨Int.le_refl _, show (0 : Int) ≤ 60 by decide⟩
 line := ⟨Int.le_refl _, Int.natCast_nonneg _⟩
 heard := ⟨Int.le_refl _, Int.natCast_nonneg _⟩
 last := .inl ⟨rfl, rfl, rfl, rfl, rfl, rfl⟩ }
def th (c : Int) : jZ := (c, 1, 0, 0, 0, [], ())
theorem Jb {c : Int} {ms : bV} (h : lk c ms) : z7 (th c) := ⟨h.1, ⟨show (1 : Int) ≤ 1 by decide, show (1 : Int) ≤ 1000000000 by decide⟩, ⟨show (0 : Int) ≤ 0 by decide, show (0 : Int) ≤ 60 by decide⟩, ⟨show (0 : Int) ≤ 0 by decide, show (0 : Int) ≤ 0 by decide⟩, ⟨show (0 : Int) ≤ 0 by decide, show (0 : Int) ≤ 5 by decide⟩, Nat.zero_le _, fun k hk => by cases hk⟩
def cr (c : Int) (ms : bV) (a : Int) : aX := (c, ms, ms.map fun m => dM c ms m.1, [ee a (th c)], List.replicate ms.length ([], ()), [], ())
theorem B4 {c : Int} {ms : bV} (hr : lk c ms) : fR c ms = some ((cr c ms (ms[0]'hr.2.1.1).1).1, (cr c ms (ms[0]'hr.2.1.1).1).2.1, (cr c ms (ms[0]'hr.2.1.1).1).2.2.1, (cr c ms (ms[0]'hr.2.1.1).1).2.2.2.1, (cr c ms (ms[0]'hr.2.1.1).1).2.2.2.2.1, (cr c ms (ms[0]'hr.2.1.1).1).2.2.2.2.2.1, true, ()) := by
 have hl := hr.2.1.2; have Oa := hr.2.1.1; have h : ms.length ≤ 1048576 := by omega
 have r1 := (lR c ms h).1; rw [(lR c ms h).2.2.2 hr] at r1; have l1 := bd (round := ek) (e := .inl (c, ms, (0 : Int), [], [], [], [], [], c, ms, ms.map fun m => dM c ms m.1, [], List.replicate ms.length ([], ()), [], ())) ms.length (fun k => (c, ms, (0 : Int), [], [], [], [], [], c, ms, (ms.take k).map fun m => dM c ms m.1, [], List.replicate k ([], ()), [], ((k : Nat) : Int), ())) (by
   simp only [ek, jG, az, cond_false, List.take_length]) (fun k hk => by
   simp only [ek, jG, aw hk, ak, cond_true, au, List.getElem?_eq_getElem hk, Option.bind_some, G8 c ms ms[k].1 h r1 (List.getElem_mem hk), List.length_map, List.length_take, List.length_replicate, Nat.min_eq_left (Nat.le_of_lt hk), aF (show (k + 1) * 208 ≤ lim by unfold lim; omega), aF (show (k + 1) * 24 ≤ lim by unfold lim; omega), aC (show k < 4611686018427387904 by omega)]; rw [map_take _ _ hk, List.replicate_succ']; rfl)
 have l1 : aA ek (c, ms, (0 : Int), [], [], [], [], [], c, ms, [], [], [], [], (0 : Int), ()) = _ := l1; unfold fR lK; simp only [r1, Option.bind_some, Bool.not_true, cond_false, cond_true, aF (show (0 + ms.length) * 8 ≤ lim by unfold lim; omega), List.nil_append, l1, bz, List.getElem?_eq_getElem (show 0 < ms.length by omega)]; rfl
theorem El {c : Int} {ms : bV} (hr : lk c ms) (a : Int) : cW 0 c ms (cr c ms a) := {
 ring := hr
 self := ⟨rfl, rfl⟩
 len := by show (ms.map _).length = _; rw [List.length_map]
 ids := fun k hk hm => by
   have hk : k < (ms.map fun m => dM c ms m.1).length := hk; show ((ms.map fun m => dM c ms m.1)[k]).1 = _; rw [List.getElem_map]; rfl
 ld := fun m hm => by
   have hm : m ∈ ms.map fun m => dM c ms m.1 := hm
   obtain ⟨x, hx, rfl⟩ := List.mem_map.1 hm; exact ⟨K5 hr hx, rfl, rfl⟩
 iG := fun f hf => by
   have hf : f ∈ [ee a (th c)] := hf; rw [List.mem_singleton] at hf; subst hf; exact Ei (Jb hr)
 vn := by show 1 ≤ _; omega
 heard := by show (List.replicate _ _).length = _; rw [List.length_replicate]
 list := fun x hx => by
   have hx : x ∈ List.replicate ms.length (([], ()) : aG × Unit) := hx; rw [List.mem_replicate] at hx; rw [hx.2]; exact Nat.zero_le _
 said := ⟨fun x hx => (by cases hx), Nat.zero_le _⟩ }
theorem B5 {c : Int} {ms : bV} (hr : lk c ms) : pK 1 0 ms (cr c ms (ms[0]'hr.2.1.1).1) := {
 iG := fun f hf => by
   have hf : f ∈ [ee (ms[0]'hr.2.1.1).1 (th c)] := hf; rw [List.mem_singleton] at hf; subst hf; exact ⟨fun _ => ⟨1, Nat.le_refl _, Nat.le_refl _, rfl, ⟨ms[0]'hr.2.1.1, by rw [Nat.sub_self, Nat.zero_mod]; exact List.getElem?_eq_getElem hr.2.1.1, rfl⟩, fun _ => rfl⟩, fun e => (by cases e)⟩
 gS := fun k hk => by
   have hk : k < (ms.map fun m => dM c ms m.1).length := hk; show tg 1 0 ms.length k (ms.map fun m => dM c ms m.1)[k]; rw [List.getElem_map]; exact ⟨fun x hx => (by cases hx), 0, rfl, by omega, fun r _ _ => by omega, .inl ⟨rfl, rfl, rfl, rfl, rfl, rfl⟩⟩
 said := fun x hx => by cases hx }
theorem SS (code : List (Int × Unit)) (h : code.length ≤ 1048576) : ∃ n : Nat, pX code = some (((n : Nat) : Int), ()) ∧ n ≤ 89 := by
 have e : Int.tdiv ((List.length code : Nat) : Int) 4 = ((code.length / 4 : Nat) : Int) := rfl; unfold pX; rw [e, fP (show -9223372036854775808 ≤ ((code.length / 4 : Nat) : Int) by omega) (by omega), fP (show -9223372036854775808 ≤ 24 + ((code.length / 4 : Nat) : Int) by omega) (by omega)]
 by_cases g : 89 < 24 + code.length / 4
 · rw [af (show (89 : Int) < 24 + ((code.length / 4 : Nat) : Int) by omega)]; exact ⟨89, rfl, Nat.le_refl _⟩
 · rw [ai (show ¬ (89 : Int) < 24 + ((code.length / 4 : Nat) : Int) by omega)]; exact ⟨24 + code.length / 4, rfl, by omega⟩
theorem SU (code : List (Int × Unit)) (a s : Int) (d : fF code a) (hc : code.length ≤ 1048576) : ∃ (c : Int) (ms : bV) (fc : List lF) (a' s' : Int), mW code a s code = some (c, ms, fc, code, a', s', ()) ∧ I8 c ms ∧ fc.length ≤ 89 ∧ (∀ e ∈ fc, Ci ms e) ∧ fF code a' := by
 obtain ⟨c, ms, a1, s1, e1, hv, _, _, d1⟩ := K1 code a s d; have hr := Gf hv; obtain ⟨n, e2, hn⟩ := SS code hc; obtain ⟨e, he, a', s', fc, rfl, q1, q2, d'⟩ := dV (round := hJ) (x := (code, a1, s1, code, (0 : Int), [], [], c, ms, [], (cr c ms (ms[0]'hr.2.1.1).1).1, (cr c ms (ms[0]'hr.2.1.1).1).2.1, (cr c ms (ms[0]'hr.2.1.1).1).2.2.1, (cr c ms (ms[0]'hr.2.1.1).1).2.2.2.1, (cr c ms (ms[0]'hr.2.1.1).1).2.2.2.2.1, (cr c ms (ms[0]'hr.2.1.1).1).2.2.2.2.2.1, ((0 : Nat) : Int), ())) n
   (fun k x => ∃ (a s : Int) (fc : List lF) (w : aX), x = (code, a, s, code, (0 : Int), [], [], c, ms, fc, w.1, w.2.1, w.2.2.1, w.2.2.2.1, w.2.2.2.2.1, w.2.2.2.2.2.1, ((k : Nat) : Int), ()) ∧ cW k c ms w ∧ fc.length = k ∧ (∀ e ∈ fc, Ci ms e) ∧ fF code a)
   (fun e => ∃ (a s : Int) (fc : List lF), e = .inl (code, a, s, (0 : Int), [], [], c, ms, fc, ()) ∧ fc.length = n ∧ (∀ e ∈ fc, Ci ms e) ∧ fF code a) (by
     rintro x ⟨a, s, fc, w, rfl, hw, q1, q2, d⟩
     exact ⟨_, by simp only [hJ, pk, e2, Option.bind_some, az, cond_false], a, s, fc, rfl, q1, q2, d⟩) (by
     rintro k x hk ⟨a, s, fc, w, rfl, hw, q1, q2, d⟩
     obtain ⟨e, a1, s1, e3, he, d1⟩ := YA code a s d hw (by omega); obtain ⟨b, w', e4, YN, _⟩ := L5 hw (by omega) he; refine .inr ⟨(code, a1, s1, code, (0 : Int), [], [], c, ms, fc ++ [e], w'.1, w'.2.1, w'.2.2.1, w'.2.2.2.1, w'.2.2.2.2.1, w'.2.2.2.2.2.1, ((k + 1 : Nat) : Int), ()), ?_, a1, s1, fc ++ [e], w', rfl, YN, by rw [List.length_append, q1]; rfl, fun x hx => ?_, d1⟩
     · simp only [hJ, pk, e2, Option.bind_some, aw hk, cond_true, e3, e4, aF (show (fc.length + 1) * 48 ≤ lim by rw [q1]; unfold lim; omega), aC (show k < 4611686018427387904 by omega)]
     · rcases List.mem_append.1 hx with hx | hx
       · exact q2 x hx
       · rw [List.mem_singleton] at hx; subst hx; exact he) ⟨a1, s1, [], _, rfl, El hr _, rfl, fun e he => (by cases he), d1⟩
 have he : aA hJ (code, a1, s1, code, (0 : Int), [], [], c, ms, [], (cr c ms (ms[0]'hr.2.1.1).1).1, (cr c ms (ms[0]'hr.2.1.1).1).2.1, (cr c ms (ms[0]'hr.2.1.1).1).2.2.1, (cr c ms (ms[0]'hr.2.1.1).1).2.2.2.1, (cr c ms (ms[0]'hr.2.1.1).1).2.2.2.2.1, (cr c ms (ms[0]'hr.2.1.1).1).2.2.2.2.2.1, (0 : Int), ()) = _ := he; refine ⟨c, ms, fc, a', s', ?_, hv, by omega, q2, d'⟩; unfold mW; simp only [e1, Option.bind_some, B4 hr, he, bz]
theorem QN {n : Nat} {c : Int} {ms : bV} {w : aX} (h : cW n c ms w) (hn : n ≤ 1000) : na w.1 w.2.1 w.2.2.1 w.2.2.2.1 w.2.2.2.2.1 w.2.2.2.2.2.1 = some (w.1, w.2.1, w.2.2.1, w.2.2.2.1, w.2.2.2.2.1, w.2.2.2.2.2.1, ()) := by
 obtain ⟨q0, q1, q2⟩ := h.Bc; have hf := h.vn; have hs := h.said.2; have hh := h.heard; have ads := h.list; have l1 := bd (round := ie) (e := .inl (w.1, w.2.1, w.2.2.1, w.2.2.2.1, w.2.2.2.2.1, w.2.2.2.2.2.1, (0 : Int), [], [], [], [], [], w.1, w.2.1, w.2.2.1, [], [], w.2.2.2.2.2.1, ())) w.2.2.1.length (fun k => (w.1, w.2.1, w.2.2.1, w.2.2.2.1, w.2.2.2.2.1, w.2.2.2.2.2.1, (0 : Int), [], [], [], [], [], w.1, w.2.1, w.2.2.1.take k, [], [], w.2.2.2.2.2.1, ((k : Nat) : Int), ())) (by
   simp only [ie, py, az, cond_false, List.take_length]) (fun k hk => by
   have hc := (mm (w.2.2.1[k]).1 (w.2.2.1[k]).2.1 (w.2.2.1[k]).2.2.1 (w.2.2.1[k]).2.2.2.1 (w.2.2.1[k]).2.2.2.2.1 (w.2.2.1[k]).2.2.2.2.2.1 (w.2.2.1[k]).2.2.2.2.2.2.1 (w.2.2.1[k]).2.2.2.2.2.2.2.1 (w.2.2.1[k]).2.2.2.2.2.2.2.2.1 (w.2.2.1[k]).2.2.2.2.2.2.2.2.2.1 (w.2.2.1[k]).2.2.2.2.2.2.2.2.2.2.1 (w.2.2.1[k]).2.2.2.2.2.2.2.2.2.2.2.1 (w.2.2.1[k]).2.2.2.2.2.2.2.2.2.2.2.2.1 (w.2.2.1[k]).2.2.2.2.2.2.2.2.2.2.2.2.2.1 (w.2.2.1[k]).2.2.2.2.2.2.2.2.2.2.2.2.2.2.1 (w.2.2.1[k]).2.2.2.2.2.2.2.2.2.2.2.2.2.2.2.1 (Nat.le_trans (h.ld _ (List.getElem_mem hk)).1.small (by decide))).1; simp only [ie, py, aw hk, ak, cond_true, au, List.getElem?_eq_getElem hk, Option.bind_some, hc, List.length_take, aF (show (min k w.2.2.1.length + 1) * 208 ≤ lim by unfold lim; omega), aC (show k < 4611686018427387904 by omega)]; rw [List.take_succ_eq_append_getElem hk])
 have l1 : aA ie (w.1, w.2.1, w.2.2.1, w.2.2.2.1, w.2.2.2.2.1, w.2.2.2.2.2.1, (0 : Int), [], [], [], [], [], w.1, w.2.1, [], [], [], w.2.2.2.2.2.1, (0 : Int), ()) = _ := l1; have l2 := bd (round := ig) (e := .inl (w.1, w.2.1, w.2.2.1, w.2.2.2.1, w.2.2.2.2.1, w.2.2.2.2.2.1, (0 : Int), [], [], [], [], [], w.1, w.2.1, w.2.2.1, w.2.2.2.1, [], w.2.2.2.2.2.1, ())) w.2.2.2.1.length (fun k => (w.1, w.2.1, w.2.2.1, w.2.2.2.1, w.2.2.2.2.1, w.2.2.2.2.2.1, (0 : Int), [], [], [], [], [], w.1, w.2.1, w.2.2.1, w.2.2.2.1.take k, [], w.2.2.2.2.2.1, ((k : Nat) : Int), ())) (by
   simp only [ig, pB, az, cond_false, List.take_length]) (fun k hk => by
   have hc := (fY (w.2.2.2.1[k]).2.2.1 (w.2.2.2.1[k]).2.2.2.1 (w.2.2.2.1[k]).2.2.2.2.1 (w.2.2.2.1[k]).2.2.2.2.2.1 (w.2.2.2.1[k]).2.2.2.2.2.2.1 (w.2.2.2.1[k]).2.2.2.2.2.2.2.1 (Nat.le_trans (h.iG _ (List.getElem_mem hk)).vn (by decide))).1; simp only [ig, pB, aw hk, ak, cond_true, au, List.getElem?_eq_getElem hk, Option.bind_some, hc, List.length_take, aF (show (min k w.2.2.2.1.length + 1) * 120 ≤ lim by unfold lim; omega), aC (show k < 4611686018427387904 by omega)]; rw [List.take_succ_eq_append_getElem hk])
 have l2 : aA ig (w.1, w.2.1, w.2.2.1, w.2.2.2.1, w.2.2.2.2.1, w.2.2.2.2.2.1, (0 : Int), [], [], [], [], [], w.1, w.2.1, w.2.2.1, [], [], w.2.2.2.2.2.1, (0 : Int), ()) = _ := l2; have l3 := bd (round := fE) (e := .inl ((0 : Int), [], [], [], [], [], w.1, w.2.1, w.2.2.1, w.2.2.2.1, w.2.2.2.2.1, w.2.2.2.2.2.1, ())) w.2.2.2.2.1.length (fun k => (w.1, w.2.1, w.2.2.1, w.2.2.2.1, w.2.2.2.2.1, w.2.2.2.2.2.1, (0 : Int), [], [], [], [], [], w.1, w.2.1, w.2.2.1, w.2.2.2.1, w.2.2.2.2.1.take k, w.2.2.2.2.2.1, ((k : Nat) : Int), ())) (by
   simp only [fE, jM, az, cond_false, List.take_length]) (fun k hk => by
   have hx := ads _ (List.getElem_mem hk); simp only [fE, jM, aw hk, ak, cond_true, au, List.getElem?_eq_getElem hk, Option.bind_some, List.length_take, List.nil_append, aF (show (0 + (w.2.2.2.2.1[k]).1.length) * 40 ≤ lim by unfold lim; omega), aF (show (min k w.2.2.2.2.1.length + 1) * 24 ≤ lim by unfold lim; omega), aC (show k < 4611686018427387904 by omega)]; rw [List.take_succ_eq_append_getElem hk])
 have l3 : aA fE (w.1, w.2.1, w.2.2.1, w.2.2.2.1, w.2.2.2.2.1, w.2.2.2.2.2.1, (0 : Int), [], [], [], [], [], w.1, w.2.1, w.2.2.1, w.2.2.2.1, [], w.2.2.2.2.2.1, (0 : Int), ()) = _ := l3; unfold na; simp only [aF (show (0 + w.2.1.length) * 8 ≤ lim by unfold lim; omega), aF (show (0 + w.2.2.2.2.2.1.length) * 40 ≤ lim by unfold lim; omega), cond_true, List.nil_append, l1, l2, l3, bz, Option.bind_some]
end Go.TM
set_option linter.unusedSimpArgs false
set_option linter.unusedVariables false
namespace Go.TM
open Go
theorem Jc (a b : Nat) : Int.tmod ((a : Nat) : Int) ((b : Nat) : Int) = ((a % b : Nat) : Int) := rfl
def L6 {A B : Type} (xs : List (Int × Unit)) : Sum A (Int × Unit) → Sum B (Int × Unit) → Prop
 | .inl _, .inl _ => True
 | .inr a, .inr b => ∃ (k : Nat) (r : Int × Unit), b.1 = ((k : Nat) : Int) ∧ k < xs.length ∧ xs[(k + 1) % xs.length]? = some r ∧ a.1 = r.1
 | _, _ => False
theorem NV (c d : Int) (xs : List (Int × Unit)) (h : xs.length ≤ 1048576) (h1 : 1 ≤ xs.length) :
   ∃ e f, aA cz (d, c, xs, (0 : Int), ()) = some e ∧ aA bl (xs, d, ((List.length xs : Nat) : Int), (0 : Int), ()) = some f ∧ L6 xs e f := by
 refine mL xs.length (fun k x y => x = (d, c, xs, ((k : Nat) : Int), ()) ∧ y = (xs, d, ((List.length xs : Nat) : Int), ((k : Nat) : Int), ())) (L6 xs) ?_ ⟨rfl, rfl⟩
 rintro k x y hk ⟨rfl, rfl⟩
 by_cases bN : k < xs.length
 · have hm : (k + 1) % xs.length < xs.length := Nat.mod_lt _ (by omega); simp only [cz, ji, bl, dk, aw bN, ak, cond_true, au, List.getElem?_eq_getElem bN, Option.bind_some, aC (show k < 4611686018427387904 by omega), Jc, List.getElem?_eq_getElem hm,
     ai (show ¬ ((List.length xs : Nat) : Int) = 0 by omega), cond_false]
   by_cases hd : xs[k].1 = d
   · rw [af hd, af hd.symm]; exact .inl ⟨.inr (xs[(k + 1) % xs.length].1, ()), .inr (((k : Nat) : Int), ()), rfl, rfl, k, xs[(k + 1) % xs.length], rfl, bN, List.getElem?_eq_getElem hm, rfl⟩
   · rw [ai hd, ai (fun e => hd e.symm)]; exact .inr ⟨bN, _, _, rfl, rfl, rfl, rfl⟩
 · have : k = xs.length := by omega
   subst this; exact .inl ⟨.inl (), .inl (), by simp only [cz, ji, az, cond_false], by simp only [bl, dk, az, cond_false], trivial⟩
theorem K6 (d : Int) (xs : List (Int × Unit)) (h : xs.length ≤ 1048576) : ∃ f, aA bl (xs, d, ((List.length xs : Nat) : Int), (0 : Int), ()) = some f := by
 obtain ⟨f, hf, _⟩ := dV (round := bl) (x := (xs, d, ((List.length xs : Nat) : Int), ((0 : Nat) : Int), ())) xs.length (fun k x => x = (xs, d, ((List.length xs : Nat) : Int), ((k : Nat) : Int), ())) (fun _ => True) (by
   rintro x rfl
   exact ⟨.inl (), by simp only [bl, dk, az, cond_false], trivial⟩) (by
   rintro k x hk rfl
   simp only [bl, dk, aw hk, ak, cond_true, au, List.getElem?_eq_getElem hk, Option.bind_some, aC (show k < 4611686018427387904 by omega)]
   cases decide (d = xs[k].1)
   · exact .inr ⟨_, rfl, rfl⟩
   · exact .inl ⟨_, rfl, trivial⟩) rfl
 exact ⟨f, hf⟩
theorem NW (c d : Int) (xs : List (Int × Unit)) (h : xs.length ≤ 1048576) : ∃ b, bO c xs d = some (b, ()) ∧ se c xs d = some (b, ()) := by
 obtain ⟨b, h1, h2, h3⟩ := A7 c xs h; unfold bO se jk; rw [h1]; simp only [Option.bind_some]
 cases b with
 | false =>
   obtain ⟨f, hf⟩ := K6 d xs h; rw [hf]
   cases f with
   | inl f => exact ⟨0, rfl, rfl⟩
   | inr f =>
     refine ⟨0, rfl, ?_⟩; simp only [bz, Option.bind_some, h2]
     cases decide (f.1 < 0) <;> rfl
 | true =>
   obtain ⟨l1, l2⟩ := h3 rfl; obtain ⟨e, f, g1, g2, g3⟩ := NV c d xs h l1; rw [g1, g2]
   cases e with
   | inl e => cases f with
     | inl f => exact ⟨0, rfl, rfl⟩
     | inr f => exact g3.elim
   | inr e => cases f with
     | inl f => exact g3.elim
     | inr f =>
       obtain ⟨k, r, q1, q2, q3, q4⟩ := g3; refine ⟨e.1, rfl, ?_⟩; simp only [bz, Option.bind_some, h2, q1, ai (show ¬ ((k : Nat) : Int) < 0 by omega), cond_false, Bool.not_true, ai (show ¬ ((List.length xs : Nat) : Int) = 0 by omega),
         aC (show k < 4611686018427387904 by omega), Jc, ak, cond_true, au, q3, q4]
end Go.TM
set_option linter.unusedSimpArgs false
set_option linter.unusedVariables false
namespace Go.TM
open Go
structure jO (n : Nat) (w : aX) : Prop where
 ring : lk w.1 w.2.1
 len : w.2.2.1.length = w.2.1.length
 ids : ∀ k (hk : k < w.2.2.1.length) (hm : k < w.2.1.length), (w.2.2.1[k]).1 = w.2.1[k].1
 ld : ∀ m ∈ w.2.2.1, pH m
 vn : w.2.2.2.1.length ≤ 1048576 + 400 * n
 pP : ∀ f ∈ w.2.2.2.1, f.2.2.2.2.2.2.2.1.length ≤ 1048576
 heard : w.2.2.2.2.1.length = w.2.1.length
 list : ∀ h ∈ w.2.2.2.2.1, h.1.length ≤ 1048576 + 60 * n
 said : w.2.2.2.2.2.1.length ≤ 1048576 + 63 * n
theorem cW.x {n : Nat} {c : Int} {ms : bV} {w : aX} (h : cW n c ms w) : jO (n + 1) w := by
 obtain ⟨e1, e2⟩ := h.self; subst e1 e2; exact
 { ring := h.ring
   len := h.len
   ids := h.ids
   ld := fun m hm => (h.ld m hm).1
   vn := Nat.le_trans h.vn (Nat.le_add_left _ _)
   pP := fun f hf => Nat.le_trans (h.iG f hf).vn (by decide)
   heard := h.heard
   list := fun x hx => Nat.le_trans (h.list x hx) (Nat.le_trans (Nat.mul_le_mul_left 60 (Nat.le_succ n)) (Nat.le_add_left _ _))
   said := Nat.le_trans h.said.2 (Nat.le_trans (Nat.mul_le_mul_left 63 (Nat.le_succ n)) (Nat.le_add_left _ _)) }
theorem jO.Bc {n : Nat} {w : aX} (h : jO n w) : w.2.1.length ≤ 5 ∧ w.2.2.1.length ≤ 5 ∧ 1 ≤ w.2.1.length := by
 have := h.ring.2.1; have := h.len; omega
theorem jO.inj {n : Nat} {w : aX} (h : jO n w) {i j : Nat} (hi : i < w.2.2.1.length) (hj : j < w.2.2.1.length) (e : (w.2.2.1[i]).1 = (w.2.2.1[j]).1) : i = j := by
 have Of : i < w.2.1.length := by rw [← h.len]; exact hi
 have IA : j < w.2.1.length := by rw [← h.len]; exact hj
 rw [h.ids i hi Of, h.ids j hj IA] at e; exact Ct h.ring.2.2 Of IA e
theorem K7 (w : aX) (h : w.2.2.1.length ≤ 1048576) (id : Int) : ∃ a, gn w.1 w.2.1 w.2.2.1 w.2.2.2.1 w.2.2.2.2.1 w.2.2.2.2.2.1 id = some (a, w.1, w.2.1, w.2.2.1, w.2.2.2.1, w.2.2.2.2.1, w.2.2.2.2.2.1, ()) ∧ ((a = -1 ∧ ∀ k (hk : k < w.2.2.1.length), (w.2.2.1[k]).1 ≠ id) ∨ ∃ k, ∃ hk : k < w.2.2.1.length, a = ((k : Nat) : Int) ∧ (w.2.2.1[k]).1 = id) := by
 obtain ⟨e, he, hq⟩ := dV (round := bJ) (x := (w.2.2.1, [([(id, ())], ())], ((List.length w.2.2.1 : Nat) : Int), ((0 : Nat) : Int), ())) w.2.2.1.length (fun k x => x = (w.2.2.1, [([(id, ())], ())], ((List.length w.2.2.1 : Nat) : Int), ((k : Nat) : Int), ()) ∧ ∀ j (hj : j < w.2.2.1.length), j < k → (w.2.2.1[j]).1 ≠ id)
   (fun e => (e = .inl () ∧ ∀ k (hk : k < w.2.2.1.length), (w.2.2.1[k]).1 ≠ id) ∨ ∃ k, ∃ hk : k < w.2.2.1.length, e = .inr (((k : Nat) : Int), ()) ∧ (w.2.2.1[k]).1 = id) (by
     rintro x ⟨rfl, g⟩
     exact ⟨_, by simp only [bJ, fa, az, cond_false], .inl ⟨rfl, fun k hk => g k hk hk⟩⟩) (by
     rintro k x hk ⟨rfl, g⟩
     simp only [bJ, fa, l9, aw hk, ak, cond_true, au, List.getElem?_eq_getElem hk, List.getElem?_cons_zero, Option.bind_some, aC (show k < 4611686018427387904 by omega)]
     by_cases e : (w.2.2.1[k]).1 = id
     · rw [af e]; exact .inl ⟨_, rfl, .inr ⟨k, hk, rfl, e⟩⟩
     · rw [ai e]; refine .inr ⟨_, rfl, rfl, fun j hj Ik => ?_⟩
       by_cases e2 : j < k
       · exact g j hj e2
       · have : j = k := by omega
         subst this; exact e) ⟨rfl, fun j hj h => by omega⟩
 have he : aA bJ (w.2.2.1, [([(id, ())], ())], ((List.length w.2.2.1 : Nat) : Int), (0 : Int), ()) = some e := he; unfold gn gJ; rw [he]; rcases hq with ⟨rfl, g⟩ | ⟨k, hk, rfl, g⟩
 · exact ⟨_, rfl, .inl ⟨rfl, g⟩⟩
 · exact ⟨_, rfl, .inr ⟨k, hk, rfl, g⟩⟩
theorem L7 {n : Nat} {w : aX} (h : jO n w) (id : Int) : ∃ a, nR w.1 w.2.1 w.2.2.1 w.2.2.2.1 w.2.2.2.2.1 w.2.2.2.2.2.1 id = some (a, w.1, w.2.1, w.2.2.1, w.2.2.2.1, w.2.2.2.2.1, w.2.2.2.2.2.1, ()) ∧ gn w.1 w.2.1 w.2.2.1 w.2.2.2.1 w.2.2.2.2.1 w.2.2.2.2.2.1 id = some (a, w.1, w.2.1, w.2.2.1, w.2.2.2.1, w.2.2.2.2.1, w.2.2.2.2.2.1, ()) ∧ ((a = -1 ∧ ∀ k (hk : k < w.2.2.1.length), (w.2.2.1[k]).1 ≠ id) ∨ ∃ k, ∃ hk : k < w.2.2.1.length, a = ((k : Nat) : Int) ∧ (w.2.2.1[k]).1 = id) := by
 have hl := h.Bc.2.1; obtain ⟨a, e1, q1⟩ := K2 w (by omega) id; obtain ⟨b, e2, q2⟩ := K7 w (by omega) id; have hab : b = a := by
   rcases q1 with ⟨rfl, g1⟩ | ⟨i, hi, rfl, g1⟩
   · rcases q2 with ⟨rfl, _⟩ | ⟨j, hj, rfl, g2⟩
     · rfl
     · exact absurd g2 (g1 j hj)
   · rcases q2 with ⟨rfl, g2⟩ | ⟨j, hj, rfl, g2⟩
     · exact absurd g1 (g2 i hi)
     · rw [h.inj hj hi (g2.trans g1.symm)]
 subst hab; exact ⟨b, e1, e2, q1⟩
def jo (ms : bV) (id : Int) (x : cu) : List la := (ms.filter fun m => !decide (m.1 = id)).map fun m => (m.1, false, 0, 0, 0, 0, 0, [], x.1, x.2.1, x.2.2.1, x.2.2.2.1, ())
theorem EZ (ms : bV) (id : Int) (x : cu) {k : Nat} (hk : k < ms.length) : jo (ms.take (k + 1)) id x = jo (ms.take k) id x ++ (bif !decide (ms[k].1 = id) then [(ms[k].1, false, 0, 0, 0, 0, 0, [], x.1, x.2.1, x.2.2.1, x.2.2.2.1, ())] else []) := by
 unfold jo; rw [List.take_succ_eq_append_getElem hk, List.filter_append, List.map_append, List.filter_cons]
 cases decide (ms[k].1 = id) <;> rfl
theorem Hd (ms : bV) (id : Int) (x : cu) : (jo ms id x).length ≤ ms.length := by
 unfold jo; rw [List.length_map]; exact List.length_filter_le _ _
theorem Jd (x : cu) (id : Int) (mt : List bt) : fZ mt id x = ((mt.map (·.1)).filter fun i => !decide (i = id)).map fun i => (i, false, 0, 0, 0, 0, 0, [], x.1, x.2.1, x.2.2.1, x.2.2.2.1, ()) := by
 unfold fZ
 induction mt with
 | nil => rfl
 | cons m mt ih =>
   rw [List.filter_cons, List.map_cons, List.filter_cons]
   cases decide (m.1 = id) <;> simp_all
theorem He (x : cu) (id : Int) (ms : bV) : jo ms id x = ((ms.map (·.1)).filter fun i => !decide (i = id)).map fun i => (i, false, 0, 0, 0, 0, 0, [], x.1, x.2.1, x.2.2.1, x.2.2.2.1, ()) := by
 unfold jo
 induction ms with
 | nil => rfl
 | cons m ms ih =>
   rw [List.filter_cons, List.map_cons, List.filter_cons]
   cases decide (m.1 = id) <;> simp_all
theorem QO {w : aX} (hl : w.2.2.1.length = w.2.1.length) (hi : ∀ k (hk : k < w.2.2.1.length) (hm : k < w.2.1.length), (w.2.2.1[k]).1 = w.2.1[k].1) (id : Int) (x : cu) : jo w.2.1 id x = fZ w.2.2.1 id x := by
 rw [Jd, He]; have : w.2.1.map (·.1) = w.2.2.1.map (·.1) := by
   apply List.ext_getElem
   · rw [List.length_map, List.length_map, hl]
   · intro k h1 h2; rw [List.length_map] at h1 h2; rw [List.getElem_map, List.getElem_map]; exact (hi k h2 h1).symm
 rw [this]
theorem B6 (w : aX) (id : Int) (l : aG) (hl : w.2.2.1.length = w.2.1.length) (hi : ∀ k (hk : k < w.2.2.1.length) (hm : k < w.2.1.length), (w.2.2.1[k]).1 = w.2.1[k].1) (h1 : w.2.1.length ≤ 5) (h2 : w.2.2.2.1.length ≤ 1073741824) (h3 : l.length ≤ 1048576) : ec w.1 w.2.1 w.2.2.1 w.2.2.2.1 w.2.2.2.2.1 w.2.2.2.2.2.1 id l = some (w.1, w.2.1, w.2.2.1, w.2.2.2.1 ++ cB w.2.2.1 id l, w.2.2.2.2.1, w.2.2.2.2.2.1, ()) := by
 have inner : ∀ (fl : List la) (i : Nat) (Hv : i < l.length), fl.length ≤ 2147483648 → aA cR (w.1, w.2.1, w.2.2.1, fl, w.2.2.2.2.1, w.2.2.2.2.2.1, id, (l[i]).1, (l[i]).2.1, (l[i]).2.2.1, (l[i]).2.2.2.1, l, ((List.length l : Nat) : Int), ((i : Nat) : Int), w.2.1, ((List.length w.2.1 : Nat) : Int), (0 : Int), ()) = some (.inl (w.1, w.2.1, w.2.2.1, fl ++ fZ w.2.2.1 id l[i], w.2.2.2.2.1, w.2.2.2.2.2.1, id, l, ((List.length l : Nat) : Int), ((i : Nat) : Int), ())) := by
   intro fl i Hv hf; have l1 := bd (round := cR) (e := .inl (w.1, w.2.1, w.2.2.1, fl ++ jo w.2.1 id l[i], w.2.2.2.2.1, w.2.2.2.2.2.1, id, l, ((List.length l : Nat) : Int), ((i : Nat) : Int), ())) w.2.1.length (fun k => (w.1, w.2.1, w.2.2.1, fl ++ jo (w.2.1.take k) id l[i], w.2.2.2.2.1, w.2.2.2.2.2.1, id, (l[i]).1, (l[i]).2.1, (l[i]).2.2.1, (l[i]).2.2.2.1, l, ((List.length l : Nat) : Int), ((i : Nat) : Int), w.2.1, ((List.length w.2.1 : Nat) : Int), ((k : Nat) : Int), ())) (by
     simp only [cR, kK, az, cond_false, List.take_length]) (fun k hk => by
     have hb : Nat.ble (((fl ++ jo (w.2.1.take k) id l[i]).length + 1) * 120) lim = true := aF (by
       have := Hd (w.2.1.take k) id l[i]; rw [List.length_take] at this; rw [List.length_append]; unfold lim; omega)
     rw [EZ w.2.1 id l[i] hk]; simp only [cR, kK, aw hk, ak, cond_true, au, List.getElem?_eq_getElem hk, Option.bind_some, aC (show k < 4611686018427387904 by omega), hb]
     cases decide ((w.2.1[k]).1 = id)
     · simp only [Bool.not_false, cond_true, List.append_assoc]
     · simp only [Bool.not_true, cond_false, List.append_nil])
   have l1 : aA cR (w.1, w.2.1, w.2.2.1, fl ++ jo (w.2.1.take 0) id l[i], w.2.2.2.2.1, w.2.2.2.2.2.1, id, (l[i]).1, (l[i]).2.1, (l[i]).2.2.1, (l[i]).2.2.2.1, l, ((List.length l : Nat) : Int), ((i : Nat) : Int), w.2.1, ((List.length w.2.1 : Nat) : Int), (0 : Int), ()) = _ := l1; rw [show jo (w.2.1.take 0) id l[i] = [] from rfl, List.append_nil, QO hl hi] at l1; exact l1
 have l2 := bd (round := cS) (e := .inl (w.1, w.2.1, w.2.2.1, w.2.2.2.1 ++ cB w.2.2.1 id l, w.2.2.2.2.1, w.2.2.2.2.2.1, ())) l.length (fun k => (w.1, w.2.1, w.2.2.1, w.2.2.2.1 ++ cB w.2.2.1 id (l.take k), w.2.2.2.2.1, w.2.2.2.2.2.1, id, l, ((List.length l : Nat) : Int), ((k : Nat) : Int), ())) (by
   simp only [cS, kL, az, cond_false, List.take_length]) (fun k hk => by
   have Q5 := mo w.2.2.1 id 5 (by omega) (l.take k); rw [List.length_take] at Q5; have Cd := inner (w.2.2.2.1 ++ cB w.2.2.1 id (l.take k)) k hk (by rw [List.length_append]; omega); rw [Eg w.2.2.1 id l hk]; simp only [cS, kL, aw hk, ak, cond_true, au, List.getElem?_eq_getElem hk, Option.bind_some]; rw [Cd]; simp only [gG, aC (show k < 4611686018427387904 by omega), List.append_assoc])
 have l2 : aA cS (w.1, w.2.1, w.2.2.1, w.2.2.2.1 ++ cB w.2.2.1 id (l.take 0), w.2.2.2.2.1, w.2.2.2.2.2.1, id, l, ((List.length l : Nat) : Int), (0 : Int), ()) = _ := l2; rw [show cB w.2.2.1 id (l.take 0) = [] from rfl, List.append_nil] at l2; have l2 : aA cS (w.1, w.2.1, w.2.2.1, w.2.2.2.1, w.2.2.2.2.1, w.2.2.2.2.2.1, id, l, ((List.length l : Nat) : Int), (0 : Int), ()) = _ := l2; unfold ec; rw [l2]; rfl
end Go.TM
set_option linter.unusedSimpArgs false
set_option linter.unusedVariables false
namespace Go.TM
open Go
theorem Je (w : aX) (id : Int) (t : jZ) (h1 : w.2.1.length ≤ 1048576) (h2 : w.2.2.2.1.length ≤ 2147483648) (h3 : t.2.2.2.2.2.1.length ≤ 1048576) : gK w.1 w.2.1 w.2.2.1 w.2.2.2.1 w.2.2.2.2.1 w.2.2.2.2.2.1 id t.1 t.2.1 t.2.2.1 t.2.2.2.1 t.2.2.2.2.1 t.2.2.2.2.2.1 = some ((fG w (w.2.2.2.1 ++ [ee (gO w.1 w.2.1 id) t])).1, (fG w (w.2.2.2.1 ++ [ee (gO w.1 w.2.1 id) t])).2.1, (fG w (w.2.2.2.1 ++ [ee (gO w.1 w.2.1 id) t])).2.2.1, (fG w (w.2.2.2.1 ++ [ee (gO w.1 w.2.1 id) t])).2.2.2.1, (fG w (w.2.2.2.1 ++ [ee (gO w.1 w.2.1 id) t])).2.2.2.2.1, (fG w (w.2.2.2.1 ++ [ee (gO w.1 w.2.1 id) t])).2.2.2.2.2.1, ()) := by
 obtain ⟨b, n1, n2⟩ := NW w.1 id w.2.1 h1; have hb : gO w.1 w.2.1 id = b := by unfold gO; rw [n1]
 unfold gK; simp only [n2, (fY t.1 t.2.1 t.2.2.1 t.2.2.2.1 t.2.2.2.2.1 t.2.2.2.2.2.1 h3).2, Option.bind_some, aF (show (w.2.2.2.1.length + 1) * 120 ≤ lim by unfold lim; omega), cond_true, hb]; rfl
theorem SV (m : bt) (h : m.2.2.2.1.length ≤ 1048576) : ou m.1 m.2.1 m.2.2.1 m.2.2.2.1 m.2.2.2.2.1 m.2.2.2.2.2.1 m.2.2.2.2.2.2.1 m.2.2.2.2.2.2.2.1 m.2.2.2.2.2.2.2.2.1 m.2.2.2.2.2.2.2.2.2.1 m.2.2.2.2.2.2.2.2.2.2.1 m.2.2.2.2.2.2.2.2.2.2.2.1 m.2.2.2.2.2.2.2.2.2.2.2.2.1 m.2.2.2.2.2.2.2.2.2.2.2.2.2.1 m.2.2.2.2.2.2.2.2.2.2.2.2.2.2.1 m.2.2.2.2.2.2.2.2.2.2.2.2.2.2.2.1 = some (EY m, ()) := by
 have l1 := bd (round := gp) (e := .inl (EY m, ())) m.2.2.2.1.length (fun i => (m.1, m.2.1, m.2.2.1, m.2.2.2.1, m.2.2.2.2.1, m.2.2.2.2.2.1, m.2.2.2.2.2.2.1, m.2.2.2.2.2.2.2.1, m.2.2.2.2.2.2.2.2.1, m.2.2.2.2.2.2.2.2.2.1, m.2.2.2.2.2.2.2.2.2.2.1, m.2.2.2.2.2.2.2.2.2.2.2.1, m.2.2.2.2.2.2.2.2.2.2.2.2.1, m.2.2.2.2.2.2.2.2.2.2.2.2.2.1, m.2.2.2.2.2.2.2.2.2.2.2.2.2.2.1, m.2.2.2.2.2.2.2.2.2.2.2.2.2.2.2.1, (m.2.2.2.1.take i).filter (fun x => decide (x.2.1 = m.1)), m.2.2.2.1, ((List.length m.2.2.2.1 : Nat) : Int), ((i : Nat) : Int), ())) (by
   simp only [gp, nV, az, cond_false, List.take_length]; rfl) (fun i hi => by
   have hb : Nat.ble ((((m.2.2.2.1.take i).filter (fun x => decide (x.2.1 = m.1))).length + 1) * 40) lim = true := aF (by
     have := List.length_filter_le (fun x : cu => decide (x.2.1 = m.1)) (m.2.2.2.1.take i); rw [List.length_take] at this; unfold lim; omega)
   rw [List.take_succ_eq_append_getElem hi, List.filter_append, List.filter_cons]; simp only [gp, nV, aw hi, ak, cond_true, au, List.getElem?_eq_getElem hi, Option.bind_some, aC (show i < 4611686018427387904 by omega), hb]
   by_cases e : (m.2.2.2.1[i]).2.1 = m.1
   · rw [af e]; rfl
   · rw [ai e]; simp only [cond_false]; rw [if_neg (by decide)]; simp)
 have l1 : aA gp (m.1, m.2.1, m.2.2.1, m.2.2.2.1, m.2.2.2.2.1, m.2.2.2.2.2.1, m.2.2.2.2.2.2.1, m.2.2.2.2.2.2.2.1, m.2.2.2.2.2.2.2.2.1, m.2.2.2.2.2.2.2.2.2.1, m.2.2.2.2.2.2.2.2.2.2.1, m.2.2.2.2.2.2.2.2.2.2.2.1, m.2.2.2.2.2.2.2.2.2.2.2.2.1, m.2.2.2.2.2.2.2.2.2.2.2.2.2.1, m.2.2.2.2.2.2.2.2.2.2.2.2.2.2.1, m.2.2.2.2.2.2.2.2.2.2.2.2.2.2.2.1, [], m.2.2.2.1, ((List.length m.2.2.2.1 : Nat) : Int), (0 : Int), ()) = _ := l1; unfold ou; rw [l1]; rfl
theorem jO.up {n n' : Nat} {w : aX} (h : jO n w) (hn : n ≤ n') : jO n' w :=
 { h with
   vn := Nat.le_trans h.vn (Nat.add_le_add_left (Nat.mul_le_mul_left _ hn) _)
   list := fun x hx => Nat.le_trans (h.list x hx) (Nat.add_le_add_left (Nat.mul_le_mul_left _ hn) _)
   said := Nat.le_trans h.said (Nat.add_le_add_left (Nat.mul_le_mul_left _ hn) _) }
theorem jO.gS {n : Nat} {w : aX} (h : jO n w) {k : Nat} (hk : k < w.2.2.1.length) {m : bt} (hm : pH m) (h1 : m.1 = (w.2.2.1[k]).1) : jO n (nt w k m) :=
 { ring := h.ring
   len := by show (w.2.2.1.set k m).length = _; rw [List.length_set]; exact h.len
   ids := fun j hj Bs => by
     have hj : j < (w.2.2.1.set k m).length := hj; show ((w.2.2.1.set k m)[j]).1 = _; rw [List.getElem_set]; rw [List.length_set] at hj
     split
     · rename_i e; subst e; rw [h1]; exact h.ids k hk Bs
     · exact h.ids j hj Bs
   ld := fun x hx => by
     have hx : x ∈ w.2.2.1.set k m := hx; rcases List.mem_or_eq_of_mem_set hx with hx | rfl
     · exact h.ld x hx
     · exact hm
   vn := h.vn
   pP := h.pP
   heard := h.heard
   list := h.list
   said := h.said }
theorem jO.my {n : Nat} {w : aX} (h : jO n w) {l : List la} (h1 : ∀ f ∈ l, f.2.2.2.2.2.2.2.1.length ≤ 1048576) (h2 : l.length ≤ 1048576 + 400 * n) : jO n (fG w l) :=
 { ring := h.ring, len := h.len, ids := h.ids, ld := h.ld, vn := h2, pP := h1, heard := h.heard, list := h.list, said := h.said }
theorem QP {m : bt} (hm : pH m) : (ew m).2.2.2.2.2.1.length ≤ 20 := by
 rcases hm.last with q | q
 · have : (ew m).2.2.2.2.2.1 = [] := q.2.2.2.2.2; rw [this]; exact Nat.zero_le _
 · exact q.2.2.2.2.2.1
theorem Jf {ms : List bt} {id : Int} {l : aG} : ∀ f ∈ cB ms id l, f.2.2.2.2.2.2.2.1.length ≤ 1048576 := by
 intro f hf; obtain ⟨m, _, x, hx, _, rfl⟩ := td hf; exact Nat.zero_le _
noncomputable def Gg (w : aX) (k : Nat) (f : la) (m' : bt) (said : aG) (nx : jZ) : aX :=
 let w2 := ei (nt w k m') f said
 fG (fG w2 (w2.2.2.2.1 ++ cB w2.2.2.1 f.1 said)) ((w2.2.2.2.1 ++ cB w2.2.2.1 f.1 said) ++ [ee (gO w2.1 w2.2.1 f.1) nx])
inductive Came (w : aX) (f : la) : aX → Prop where
 | no : Came w f w
 | Hf (k : Nat) (hk : k < w.2.2.1.length) (pM : (w.2.2.1[k]).1 = f.1) (ht : f.2.1 = false) : Came w f (nt w k (pI w.2.2.1[k] (f.2.2.2.2.2.2.2.2.1, f.2.2.2.2.2.2.2.2.2.1, f.2.2.2.2.2.2.2.2.2.2.1, f.2.2.2.2.2.2.2.2.2.2.2.1, ())))
 | held (k : Nat) (hk : k < w.2.2.1.length) (pM : (w.2.2.1[k]).1 = f.1) (ht : f.2.1 = true) (m' : bt) (said : aG) (j : Nat) (nx : jZ) (hT : z7 (f.2.2.1, f.2.2.2.1, f.2.2.2.2.1, f.2.2.2.2.2.1, f.2.2.2.2.2.2.1, f.2.2.2.2.2.2.2.1, ())) (hr : (w.2.2.1[k]).2.2.2.2.2.2.1 < f.2.2.2.1) (H : NO w.2.2.1[k] (f.2.2.1, f.2.2.2.1, f.2.2.2.2.1, f.2.2.2.2.2.1, f.2.2.2.2.2.2.1, f.2.2.2.2.2.2.2.1, ()) m' said j nx) : Came w f (Gg w k f m' said nx)
def YB (w : aX) (k : Nat) (m' : bt) (l : aG) : aX := Yy (nt w k m') (w.2.2.2.2.1.set k (l, ()))
inductive Step (w : aX) (e : lF) : aX → Prop where
 | same : Step w e w
 | SQ (k : Nat) (hk : k < w.2.2.1.length) (pM : (w.2.2.1[k]).1 = e.2.1) (h1 : e.1 = 1) : Step w e (nt w k (Ae w.2.2.1[k] e.2.2.2.1 e.2.2.2.2.1))
 | SW (k : Nat) (hk : k < w.2.2.1.length) (kQ : k < w.2.2.2.2.1.length) (j : Nat) (hj : (w.2.2.1[k]).2.2.2.2.2.2.2.2.2.1 + ((j : Nat) : Int) ≤ ((bE (w.2.2.1[k]).2.2.2.1 : Nat) : Int))
     (hw : ∀ i, i < j → ¬ wE (w.2.2.1[k]).2.2.2.1 (w.2.2.1[k]).2.2.2.2.2.2.2.2.1 ((w.2.2.1[k]).2.2.2.2.2.2.2.2.2.1 + ((i + 1 : Nat) : Int))) : Step w e (YB w k (eP w.2.2.1[k] ((w.2.2.1[k]).2.2.2.2.2.2.2.2.2.1 + ((j : Nat) : Int))) ((w.2.2.2.2.1[k]).1 ++ ez (w.2.2.1[k]).2.2.2.1 (w.2.2.1[k]).2.2.2.2.2.2.2.2.2.1 j))
 | again (k : Nat) (hk : k < w.2.2.1.length) (hb : ¬ Blank (ew w.2.2.1[k])) : Step w e (sD w w.2.2.1[k])
 | dup (j : Nat) (hj : j < w.2.2.2.1.length) : Step w e (fG w (w.2.2.2.1 ++ [w.2.2.2.1[j]]))
 | drop (j : Nat) (hj : j < w.2.2.2.1.length) : Step w e (fG w (w.2.2.2.1.take j ++ w.2.2.2.1.drop (j + 1)))
 | SX (j : Nat) (hj : j < w.2.2.2.1.length) (w' : aX) (h : Came (fG w (w.2.2.2.1.take j ++ w.2.2.2.1.drop (j + 1))) w.2.2.2.1[j] w') : Step w e w'
theorem K8 {n : Nat} {w : aX} (e : lF) (h : jO n w) (hn : n ≤ 1000000) {k : Nat} (hk : k < w.2.2.1.length) : ∃ a w', jS w.1 w.2.1 w.2.2.1 w.2.2.2.1 w.2.2.2.2.1 w.2.2.2.2.2.1 ((k : Nat) : Int) = some (a, w'.1, w'.2.1, w'.2.2.1, w'.2.2.2.1, w'.2.2.2.2.1, w'.2.2.2.2.2.1, ()) ∧ lP w.1 w.2.1 w.2.2.1 w.2.2.2.1 w.2.2.2.2.1 w.2.2.2.2.2.1 ((k : Nat) : Int) = some (a, w'.1, w'.2.1, w'.2.2.1, w'.2.2.2.1, w'.2.2.2.2.1, w'.2.2.2.2.2.1, ()) ∧ jO (n + 1) w' ∧ Step w e w' := by
 obtain ⟨q0, q1, q2⟩ := h.Bc; have hm := h.ld _ (List.getElem_mem hk); have hi := (bj _ hm.items).1; have hf := h.vn; have hl := QP hm; have hl : (w.2.2.1[k]).2.2.2.2.2.2.2.2.2.2.2.2.2.2.2.1.length ≤ 20 := hl; rw [Gd w hk q1 (by omega) (by omega) (by omega) (by omega)]; unfold lP; have z : cI (w.2.2.1[k]).2.2.2.2.2.2.2.2.2.2.1 (w.2.2.1[k]).2.2.2.2.2.2.2.2.2.2.2.1 (w.2.2.1[k]).2.2.2.2.2.2.2.2.2.2.2.2.1 (w.2.2.1[k]).2.2.2.2.2.2.2.2.2.2.2.2.2.1 (w.2.2.1[k]).2.2.2.2.2.2.2.2.2.2.2.2.2.2.1 (w.2.2.1[k]).2.2.2.2.2.2.2.2.2.2.2.2.2.2.2.1 = some (n6 (ew w.2.2.1[k]), ()) := (rB (ew w.2.2.1[k])).2.1; simp only [ak, au, eZ hk, List.getElem?_eq_getElem hk, Option.bind_some, cond_true, z]
 cases hbl : n6 (ew w.2.2.1[k])
 · have p1 : gK w.1 w.2.1 w.2.2.1 w.2.2.2.1 w.2.2.2.2.1 w.2.2.2.2.2.1 (w.2.2.1[k]).1 (w.2.2.1[k]).2.2.2.2.2.2.2.2.2.2.1 (w.2.2.1[k]).2.2.2.2.2.2.2.2.2.2.2.1 (w.2.2.1[k]).2.2.2.2.2.2.2.2.2.2.2.2.1 (w.2.2.1[k]).2.2.2.2.2.2.2.2.2.2.2.2.2.1 (w.2.2.1[k]).2.2.2.2.2.2.2.2.2.2.2.2.2.2.1 (w.2.2.1[k]).2.2.2.2.2.2.2.2.2.2.2.2.2.2.2.1 = _ := Je w (w.2.2.1[k]).1 (ew w.2.2.1[k]) (by omega) (by omega) (show (ew w.2.2.1[k]).2.2.2.2.2.1.length ≤ 1048576 from by have : (ew w.2.2.1[k]).2.2.2.2.2.1.length ≤ 20 := hl; omega); have p2 := SV w.2.2.1[k] (by omega); have E2 : (EY w.2.2.1[k]).length ≤ 60 := Nat.le_trans (List.length_filter_le _ _) hi; have p3 := B6 (fG w (w.2.2.2.1 ++ [ee (gO w.1 w.2.1 (w.2.2.1[k]).1) (ew w.2.2.1[k])])) (w.2.2.1[k]).1 (EY w.2.2.1[k]) h.len h.ids q0 (by show (w.2.2.2.1 ++ [_]).length ≤ _; rw [List.length_append, List.length_singleton]; omega) (by omega); refine ⟨0, sD w w.2.2.1[k], rfl, ?_, (h.up (Nat.le_succ n)).my (fun f Rp => ?_) ?_, .again k hk fun q => by rw [(rB (ew w.2.2.1[k])).2.2.2 q] at hbl; cases hbl⟩
   · simp only [cond_false, p1, p2, Option.bind_some]; rw [p3]; rfl
   · rcases List.mem_append.1 Rp with Rp | Rp
     · rcases List.mem_append.1 Rp with Rp | Rp
       · exact h.pP f Rp
       · rw [List.mem_singleton] at Rp; subst Rp; show (ew w.2.2.1[k]).2.2.2.2.2.1.length ≤ 1048576; have : (ew w.2.2.1[k]).2.2.2.2.2.1.length ≤ 20 := hl; omega
     · exact Jf f Rp
   · have h1 := mo w.2.2.1 (w.2.2.1[k]).1 5 q1 (EY w.2.2.1[k]); rw [List.length_append, List.length_append, List.length_singleton]; omega
 · exact ⟨1, w, rfl, rfl, h.up (Nat.le_succ n), .same⟩
theorem NX {n : Nat} {w : aX} (e : lF) (h : jO n w) (hn : n ≤ 1000000) {k : Nat} (hk : k < w.2.2.1.length) : ∃ w', kW w.1 w.2.1 w.2.2.1 w.2.2.2.1 w.2.2.2.2.1 w.2.2.2.2.2.1 ((k : Nat) : Int) = some (w'.1, w'.2.1, w'.2.2.1, w'.2.2.2.1, w'.2.2.2.2.1, w'.2.2.2.2.2.1, ()) ∧ mZ w.1 w.2.1 w.2.2.1 w.2.2.2.1 w.2.2.2.2.1 w.2.2.2.2.2.1 ((k : Nat) : Int) = some (w'.1, w'.2.1, w'.2.2.1, w'.2.2.2.1, w'.2.2.2.2.1, w'.2.2.2.2.2.1, ()) ∧ jO (n + 1) w' ∧ Step w e w' := by
 obtain ⟨q0, q1, q2⟩ := h.Bc; have hm := h.ld _ (List.getElem_mem hk); have hl := h.len; have hh := h.heard; have kQ : k < w.2.2.2.2.1.length := by omega
 obtain ⟨j, m', rfl, p1, p2, p3, p4, p5, _⟩ := L3 hm; have ha := (rC (w.2.2.1[k]).2.2.2.1 (Nat.le_trans (bj _ hm.items).1 (by decide))).2.2.1; have hi := (bj _ hm.items).1; have hg := hm.heard; have hj : j ≤ 60 := by omega
 have hx := h.list _ (List.getElem_mem kQ); refine ⟨Yy (nt w k _) (w.2.2.2.2.1.set k ((w.2.2.2.2.1[k]).1 ++ ez (w.2.2.1[k]).2.2.2.1 (w.2.2.1[k]).2.2.2.2.2.2.2.2.2.1 j, ())), ?_, ?_, ?_, .SW k hk kQ j p4 p5⟩
 · have h1 := oS w (by omega) hk (eP w.2.2.1[k] ((w.2.2.1[k]).2.2.2.2.2.2.2.2.2.1 + ((j : Nat) : Int))); unfold kW; simp only [ak, cond_true, au, List.getElem?_eq_getElem hk, Option.bind_some, p2, h1]; show (bif Nat.ble ((0 + w.2.2.2.2.1.length) * 24) lim then _ else none) = _; simp only [nt, aF (show (0 + w.2.2.2.2.1.length) * 24 ≤ lim by unfold lim; omega), cond_true, List.nil_append, eZ kQ, List.getElem?_eq_getElem kQ, Option.bind_some, aF (show (0 + (w.2.2.2.2.1[k]).1.length) * 40 ≤ lim by unfold lim; omega), n7, aF (show ((w.2.2.2.2.1[k]).1.length + j) * 40 ≤ lim by unfold lim; omega)]; rfl
 · unfold mZ
   try simp only [bZ]
   simp only [ak, cond_true, au, eZ hk, List.getElem?_eq_getElem hk, Option.bind_some, p1, aw kQ, eZ kQ, List.getElem?_eq_getElem kQ, n7, aF (show ((w.2.2.2.2.1[k]).1.length + j) * 40 ≤ lim by unfold lim; omega), Nat.beq_refl]; rfl
 · have h2 := (h.gS hk p3 rfl).up (Nat.le_succ n); exact
   { ring := h2.ring, len := h2.len, ids := h2.ids, ld := h2.ld, vn := h2.vn, pP := h2.pP, said := h2.said
     heard := by show (w.2.2.2.2.1.set k _).length = _; rw [List.length_set]; exact hh
     list := fun x rF => by
       have rF : x ∈ w.2.2.2.2.1.set k _ := rF; rcases List.mem_or_eq_of_mem_set rF with rF | rfl
       · exact h2.list x rF
       · show ((w.2.2.2.2.1[k]).1 ++ ez _ _ j).length ≤ _; rw [List.length_append, n7]; omega }
theorem QQ {m : bt} (hm : pH m) (x : cu) : pH (pI m x) ∧ (pI m x).1 = m.1 := by
 cases hx : xC x
 · have hc : pI m x = m := by
     unfold pI NN; rw [hx]
     cases wD m <;> cases rz m.2.2.2.1 <;> rfl
   rw [hc]; exact ⟨hm, rfl⟩
 · have hq := (zZ x).2.2.1 hx; rw [tf hm hq]; exact ⟨Ej hm hq, rfl⟩
theorem Gh {m : bt} {t : jZ} {m' : bt} {said : aG} {j : Nat} {nx : jZ} (H : NO m t m' said j nx) (hT : z7 t) {f : la} (Jq : (f.2.2.1, f.2.2.2.1, f.2.2.2.2.1, f.2.2.2.2.2.1, f.2.2.2.2.2.2.1, f.2.2.2.2.2.2.2.1, ()) = t) : lE f said = said.drop (said.length - j) := by
 have hs : f.2.2.2.2.1 = t.2.2.1 := by rw [← Jq]
 have h1 : ∀ x ∈ sm t m.2.2.2.1, ¬ t.2.2.1 < x.1 := fun x hx => by
   have hw := (List.mem_filter.1 hx).2; rw [decide_eq_true_eq] at hw; unfold aZ at hw; obtain ⟨y, hy, e⟩ := List.mem_map.1 hw; obtain ⟨k, hk, rfl⟩ := List.mem_iff_getElem.1 hy; have := (hT.2.2.2.2.2.2 k hk hk).2.1; omega
 have h2 : ∀ x ∈ cK t.2.2.1 m.1 m.2.2.2.2.1 m.2.2.2.2.2.1 j, t.2.2.1 < x.1 := fun x hx => by
   obtain ⟨i, hi, rfl⟩ := ql hx; show t.2.2.1 < t.2.2.1 + ((i + 1 : Nat) : Int); omega
 unfold lE; rw [hs, H.said, List.filter_append, List.length_append, eU, Nat.add_sub_cancel, List.drop_left, List.filter_eq_nil_iff.2 (fun x hx => by rw [decide_eq_true_eq]; exact h1 x hx), List.nil_append, List.filter_eq_self.2 (fun x hx => decide_eq_true (h2 x hx))]
theorem K9 (w : aX) (f : la) (l : aG) (t : jZ) (h1 : w.2.2.2.2.2.1.length ≤ 1073741824) (h2 : l.length ≤ 1048576) : aA bY (w.1, w.2.1, w.2.2.1, w.2.2.2.1, w.2.2.2.2.1, w.2.2.2.2.2.1, f.1, f.2.1, f.2.2.1, f.2.2.2.1, f.2.2.2.2.1, f.2.2.2.2.2.1, f.2.2.2.2.2.2.1, f.2.2.2.2.2.2.2.1, f.2.2.2.2.2.2.2.2.1, f.2.2.2.2.2.2.2.2.2.1, f.2.2.2.2.2.2.2.2.2.2.1, f.2.2.2.2.2.2.2.2.2.2.2.1, l, t.1, t.2.1, t.2.2.1, t.2.2.2.1, t.2.2.2.2.1, t.2.2.2.2.2.1, (0 : Int), ()) = some (.inl ((ei w f l).1, (ei w f l).2.1, (ei w f l).2.2.1, (ei w f l).2.2.2.1, (ei w f l).2.2.2.2.1, (ei w f l).2.2.2.2.2.1, f.1, f.2.1, f.2.2.1, f.2.2.2.1, f.2.2.2.2.1, f.2.2.2.2.2.1, f.2.2.2.2.2.2.1, f.2.2.2.2.2.2.2.1, f.2.2.2.2.2.2.2.2.1, f.2.2.2.2.2.2.2.2.2.1, f.2.2.2.2.2.2.2.2.2.2.1, f.2.2.2.2.2.2.2.2.2.2.2.1, l, t.1, t.2.1, t.2.2.1, t.2.2.2.1, t.2.2.2.2.1, t.2.2.2.2.2.1, ())) := by
 have l1 := bd (round := bY) (e := .inl ((ei w f l).1, (ei w f l).2.1, (ei w f l).2.2.1, (ei w f l).2.2.2.1, (ei w f l).2.2.2.2.1, (ei w f l).2.2.2.2.2.1, f.1, f.2.1, f.2.2.1, f.2.2.2.1, f.2.2.2.2.1, f.2.2.2.2.2.1, f.2.2.2.2.2.2.1, f.2.2.2.2.2.2.2.1, f.2.2.2.2.2.2.2.2.1, f.2.2.2.2.2.2.2.2.2.1, f.2.2.2.2.2.2.2.2.2.2.1, f.2.2.2.2.2.2.2.2.2.2.2.1, l, t.1, t.2.1, t.2.2.1, t.2.2.2.1, t.2.2.2.2.1, t.2.2.2.2.2.1, ())) l.length (fun k => ((ei w f (l.take k)).1, (ei w f (l.take k)).2.1, (ei w f (l.take k)).2.2.1, (ei w f (l.take k)).2.2.2.1, (ei w f (l.take k)).2.2.2.2.1, (ei w f (l.take k)).2.2.2.2.2.1, f.1, f.2.1, f.2.2.1, f.2.2.2.1, f.2.2.2.2.1, f.2.2.2.2.2.1, f.2.2.2.2.2.2.1, f.2.2.2.2.2.2.2.1, f.2.2.2.2.2.2.2.2.1, f.2.2.2.2.2.2.2.2.2.1, f.2.2.2.2.2.2.2.2.2.2.1, f.2.2.2.2.2.2.2.2.2.2.2.1, l, t.1, t.2.1, t.2.2.1, t.2.2.2.1, t.2.2.2.2.1, t.2.2.2.2.2.1, ((k : Nat) : Int), ())) (by
   simp only [bY, jJ, az, cond_false, List.take_length]) (fun k hk => by
   have hl := Ai f (l.take k); rw [List.length_take] at hl; have MI : Nat.ble ((0 + (w.2.2.2.2.2.1 ++ lE f (l.take k)).length) * 40) lim = true := aF (by rw [List.length_append]; unfold lim; omega); have Fi : Nat.ble (((w.2.2.2.2.2.1 ++ lE f (l.take k)).length + 1) * 40) lim = true := aF (by rw [List.length_append]; unfold lim; omega); have e : lE f (l.take (k + 1)) = lE f (l.take k) ++ (if decide (f.2.2.2.2.1 < (l[k]).1) = true then [l[k]] else []) := by
     unfold lE; rw [List.take_succ_eq_append_getElem hk, List.filter_append, List.filter_cons, List.filter_nil]
   simp only [ei, Yz, e, bY, jJ, aw hk, eZ hk, ak, cond_true, au, List.getElem?_eq_getElem hk, Option.bind_some, aC (show k < 4611686018427387904 by omega), MI, Fi, List.nil_append, bZ]
   by_cases e : f.2.2.2.2.1 < (l[k]).1
   · rw [af e, if_pos rfl, ← List.append_assoc]; rfl
   · rw [ai e, if_neg (by decide)]; simp only [cond_false]; rw [List.append_nil])
 have l1 : aA bY ((ei w f (l.take 0)).1, (ei w f (l.take 0)).2.1, (ei w f (l.take 0)).2.2.1, (ei w f (l.take 0)).2.2.2.1, (ei w f (l.take 0)).2.2.2.2.1, (ei w f (l.take 0)).2.2.2.2.2.1, f.1, f.2.1, f.2.2.1, f.2.2.2.1, f.2.2.2.2.1, f.2.2.2.2.2.1, f.2.2.2.2.2.2.1, f.2.2.2.2.2.2.2.1, f.2.2.2.2.2.2.2.2.1, f.2.2.2.2.2.2.2.2.2.1, f.2.2.2.2.2.2.2.2.2.2.1, f.2.2.2.2.2.2.2.2.2.2.2.1, l, t.1, t.2.1, t.2.2.1, t.2.2.2.1, t.2.2.2.2.1, t.2.2.2.2.2.1, (0 : Int), ()) = _ := l1; have e0 : ei w f (l.take 0) = w := by unfold ei; rw [show lE f (l.take 0) = [] from rfl, List.append_nil]; rfl
 rwa [e0] at l1
theorem NY {n : Nat} {w : aX} (h : jO n w) (hn : n ≤ 1000000) (f : la) (hf : f.2.2.2.2.2.2.2.1.length ≤ 1048576) : ∃ a w', iA w.1 w.2.1 w.2.2.1 w.2.2.2.1 w.2.2.2.2.1 w.2.2.2.2.2.1 f.1 f.2.1 f.2.2.1 f.2.2.2.1 f.2.2.2.2.1 f.2.2.2.2.2.1 f.2.2.2.2.2.2.1 f.2.2.2.2.2.2.2.1 f.2.2.2.2.2.2.2.2.1 f.2.2.2.2.2.2.2.2.2.1 f.2.2.2.2.2.2.2.2.2.2.1 f.2.2.2.2.2.2.2.2.2.2.2.1 = some (a, w'.1, w'.2.1, w'.2.2.1, w'.2.2.2.1, w'.2.2.2.2.1, w'.2.2.2.2.2.1, ()) ∧ kM w.1 w.2.1 w.2.2.1 w.2.2.2.1 w.2.2.2.2.1 w.2.2.2.2.2.1 f.1 f.2.1 f.2.2.1 f.2.2.2.1 f.2.2.2.2.1 f.2.2.2.2.2.1 f.2.2.2.2.2.2.1 f.2.2.2.2.2.2.2.1 f.2.2.2.2.2.2.2.2.1 f.2.2.2.2.2.2.2.2.2.1 f.2.2.2.2.2.2.2.2.2.2.1 f.2.2.2.2.2.2.2.2.2.2.2.1 = some (a, w'.1, w'.2.1, w'.2.2.1, w'.2.2.2.1, w'.2.2.2.2.1, w'.2.2.2.2.2.1, ()) ∧ jO (n + 1) w' ∧ Came w f w' := by
 obtain ⟨q0, q1, q2⟩ := h.Bc; have NT := h.vn; obtain ⟨a, e1, i1, hq⟩ := L7 h f.1; unfold iA kM
 try simp only [bZ]
 simp only [e1, i1, Option.bind_some]; rcases hq with ⟨rfl, _⟩ | ⟨k, hk, rfl, pM⟩
 · exact ⟨1, w, rfl, rfl, h.up (Nat.le_succ n), .no⟩
 have hm := h.ld _ (List.getElem_mem hk); have hi := (bj _ hm.items).1; have hw := hm.small; simp only [ai (show ¬ ((k : Nat) : Int) < 0 by omega), cond_false, ak, cond_true, au, eZ hk, List.getElem?_eq_getElem hk, Option.bind_some]
 cases ht : f.2.1
 · obtain ⟨e2, i2⟩ := D8 w.2.2.1[k] (f.2.2.2.2.2.2.2.2.1, f.2.2.2.2.2.2.2.2.2.1, f.2.2.2.2.2.2.2.2.2.2.1, f.2.2.2.2.2.2.2.2.2.2.2.1, ()) (Nat.le_trans hw (by decide)); obtain ⟨c1, c2⟩ := QQ hm (f.2.2.2.2.2.2.2.2.1, f.2.2.2.2.2.2.2.2.2.1, f.2.2.2.2.2.2.2.2.2.2.1, f.2.2.2.2.2.2.2.2.2.2.2.1, ()); have e3 := oS w (by omega) hk (pI w.2.2.1[k] (f.2.2.2.2.2.2.2.2.1, f.2.2.2.2.2.2.2.2.2.1, f.2.2.2.2.2.2.2.2.2.2.1, f.2.2.2.2.2.2.2.2.2.2.2.1, ())); refine ⟨0, nt w k (pI w.2.2.1[k] (f.2.2.2.2.2.2.2.2.1, f.2.2.2.2.2.2.2.2.2.1, f.2.2.2.2.2.2.2.2.2.2.1, f.2.2.2.2.2.2.2.2.2.2.2.1, ())), ?_, ?_, (h.gS hk c1 c2).up (Nat.le_succ n), .Hf k hk pM ht⟩
   · simp only [Bool.not_false, cond_true]; rw [e2]; simp only [Option.bind_some]; rw [e3]; rfl
   · simp only [Bool.not_false, cond_true]; rw [i2]; rfl
 · simp only [Bool.not_true, cond_false]; generalize ht' : ((f.2.2.1, f.2.2.2.1, f.2.2.2.2.1, f.2.2.2.2.2.1, f.2.2.2.2.2.2.1, f.2.2.2.2.2.2.2.1, ()) : jZ) = t; have Jq : (f.2.2.1, f.2.2.2.1, f.2.2.2.2.1, f.2.2.2.2.2.1, f.2.2.2.2.2.2.1, f.2.2.2.2.2.2.2.1, ()) = t := ht'; have hwt : t.2.2.2.2.2.1.length ≤ 1048576 := by rw [← Jq]; exact hf
   cases hh : Gc w.2.2.1[k] t
   · obtain ⟨i2, e2⟩ := L1 w.2.2.1[k] t (Nat.le_trans hw (by decide)) hwt hh; subst Jq; rw [e2, i2]; exact ⟨1, w, rfl, rfl, h.up (Nat.le_succ n), .no⟩
   · unfold Gc at hh; simp only [Bool.and_eq_true, decide_eq_true_eq] at hh; have hT := (A8 t hwt).2.2.1 hh.2.1; obtain ⟨m', said, j, nx, H, i2, e2⟩ := L0 w.2.2.1[k] t hm hT hh.2.2.1 hh.2.2.2.1 hh.2.2.2.2; have hlen : said.length ≤ 63 := by
       rw [H.said, List.length_append, eU]; have := Ed t (w.2.2.1[k]).2.2.2.1; have := H.vn.1; omega
     have hjl : j ≤ said.length := by rw [H.said, List.length_append, eU]; omega
     have hs := h.said; have e3 := oS w (by omega) hk m'; have hW := h.gS hk H.nq H.id.1; have RR := Gh H hT Jq; have RJ := Ai f said; have e4 := K9 (nt w k m') f said nx (by show w.2.2.2.2.2.1.length ≤ _; omega) (by omega); generalize Hr : ei (nt w k m') f said = w2 at e4; have p1 : w2.2.2.1 = w.2.2.1.set k m' := by rw [← Hr]; rfl
     have p2 : w2.2.2.2.1 = w.2.2.2.1 := by rw [← Hr]; rfl
     have p3 : w2.2.1 = w.2.1 := by rw [← Hr]; rfl
     have hW2 : jO (n + 1) w2 := by
       rw [← Hr]; have hU := hW.up (Nat.le_succ n); have hsd : (w.2.2.2.2.2.1 ++ lE f said).length ≤ 1048576 + 63 * (n + 1) := by rw [List.length_append]; omega
       exact { ring := hU.ring, len := hU.len, ids := hU.ids, ld := hU.ld, vn := hU.vn, pP := hU.pP, heard := hU.heard, list := hU.list, said := hsd }
     have hm5 : w2.2.2.1.length ≤ 5 := by rw [p1, List.length_set]; exact q1
     have e5 := Eh w2 f.1 said hm5 (by rw [p2]; omega) (by omega); have Rj := mo w2.2.2.1 f.1 5 hm5 said; have hl6 : (w2.2.2.2.1 ++ cB w2.2.2.1 f.1 said).length ≤ w.2.2.2.1.length + 315 := by rw [List.length_append, p2]; omega
     have hnl : nx.2.2.2.2.2.1.length ≤ 1048576 := Nat.le_trans H.tq.2.2.2.2.2.1 (by decide); have e6 := Bb (fG w2 (w2.2.2.2.1 ++ cB w2.2.2.1 f.1 said)) f.1 nx (by show w2.2.1.length ≤ _; rw [p3]; omega) (by show (w2.2.2.2.1 ++ cB w2.2.2.1 f.1 said).length ≤ _; omega) hnl; refine ⟨0, fG (fG w2 (w2.2.2.2.1 ++ cB w2.2.2.1 f.1 said)) ((w2.2.2.2.1 ++ cB w2.2.2.1 f.1 said) ++ [ee (gO w2.1 w2.2.1 f.1) nx]), ?_, ?_, hW2.my (fun g hg => ?_) ?_, ?_⟩
     · subst Jq; rw [e2]; simp only [Option.bind_some, Bool.not_true, cond_false]; rw [e3]; simp only [Option.bind_some]; have e4' := e4; simp only [e4, bz, Option.bind_some]; rw [show f.2.1 = true from ht] at e4; rw [e4]; simp only [Option.bind_some]; rw [e5]; simp only [Option.bind_some]; rw [e6]; rfl
     · have YC : m'.1 = f.1 := H.id.1.trans pM; have hd : List.drop (said.length - j) said = lE f said := RR.symm; have t1 := B6 (nt w k m') m'.1 said hW.len hW.ids q0 (by show w.2.2.2.1.length ≤ _; omega) (by omega); have t1 : ec w.1 w.2.1 (w.2.2.1.set k m') w.2.2.2.1 w.2.2.2.2.1 w.2.2.2.2.2.1 m'.1 said = some (w.1, w.2.1, w.2.2.1.set k m', w.2.2.2.1 ++ cB (w.2.2.1.set k m') m'.1 said, w.2.2.2.2.1, w.2.2.2.2.2.1, ()) := t1; have hl7 : (w.2.2.2.1 ++ cB (w.2.2.1.set k m') m'.1 said).length ≤ 2147483648 := by
         have := mo (w.2.2.1.set k m') m'.1 5 (by rw [List.length_set]; exact q1) said; rw [List.length_append]; omega
       have t2 := Je (fG (nt w k m') (w.2.2.2.1 ++ cB (w.2.2.1.set k m') m'.1 said)) m'.1 nx (by show w.2.1.length ≤ _; omega) hl7 hnl; have t2 : gK w.1 w.2.1 (w.2.2.1.set k m') (w.2.2.2.1 ++ cB (w.2.2.1.set k m') m'.1 said) w.2.2.2.2.1 w.2.2.2.2.2.1 m'.1 nx.1 nx.2.1 nx.2.2.1 nx.2.2.2.1 nx.2.2.2.2.1 nx.2.2.2.2.2.1 = some (w.1, w.2.1, w.2.2.1.set k m', (w.2.2.2.1 ++ cB (w.2.2.1.set k m') m'.1 said) ++ [ee (gO w.1 w.2.1 m'.1) nx], w.2.2.2.2.1, w.2.2.2.2.2.1, ()) := t2; have hwr : IntKind.i64.wrap (((said.length : Nat) : Int) - ((j : Nat) : Int)) = ((said.length - j : Nat) : Int) := by rw [fP] <;> omega
       subst Jq; rw [i2]; have t1 : ec w.1 w.2.1 (w.2.2.1.set k (m'.1, m'.2.1, m'.2.2.1, m'.2.2.2.1, m'.2.2.2.2.1, m'.2.2.2.2.2.1, m'.2.2.2.2.2.2.1, m'.2.2.2.2.2.2.2.1, m'.2.2.2.2.2.2.2.2.1, m'.2.2.2.2.2.2.2.2.2.1, m'.2.2.2.2.2.2.2.2.2.2.1, m'.2.2.2.2.2.2.2.2.2.2.2.1, m'.2.2.2.2.2.2.2.2.2.2.2.2.1, m'.2.2.2.2.2.2.2.2.2.2.2.2.2.1, m'.2.2.2.2.2.2.2.2.2.2.2.2.2.2.1, m'.2.2.2.2.2.2.2.2.2.2.2.2.2.2.2.1, ())) w.2.2.2.1 w.2.2.2.2.1 w.2.2.2.2.2.1 m'.1 said = _ := t1; simp only [Option.bind_some, Bool.not_true, cond_false, t1, t2]; simp only [hwr, ak, cond_true, au, af (show ((said.length - j : Nat) : Int) ≤ ((said.length : Nat) : Int) by omega), hd, aF (show (w.2.2.2.2.2.1.length + (lE f said).length) * 40 ≤ lim by unfold lim; omega)]; rw [← Hr, YC]; rfl
     · rcases List.mem_append.1 hg with hg | hg
       · rcases List.mem_append.1 hg with hg | hg
         · rw [p2] at hg; exact h.pP g hg
         · exact Jf g hg
       · rw [List.mem_singleton] at hg; subst hg; exact hnl
     · rw [List.length_append, List.length_singleton]; omega
     · subst Jq; rw [← Hr]; exact .held k hk pM ht m' said j nx hT hh.2.2.2.1 H
theorem QR (b : Bool) (d : Int) (s : ByteArray) : qc b d s = some (bif b then (decide (1 ≤ d) && decide (d ≤ 2)) && decide (((ByteArray.size s : Nat) : Int) ≤ 60) else decide (d = 0) && j3 s (ByteArray.mk #[]), ()) := by
 unfold qc; simp only [wB, Option.bind_some]
 cases b
 · cases decide (d = 0) <;> rfl
 · cases (decide (1 ≤ d) && decide (d ≤ 2)) <;> rfl
theorem NZ {c : Int} {ms : bV} (hr : lk c ms) {e : lF} (he : Ci ms e) : sd c ms e.1 e.2.1 e.2.2.1 e.2.2.2.1 e.2.2.2.2.1 = some (true, ()) := by
 have hl := hr.2.1.2; unfold sd; simp only [sB, af he.kind.1, af he.kind.2, Bool.and_self, Option.bind_some, Bool.not_true, cond_false, LX ms e.2.1 (by omega), af he.id, ai (show ¬ e.2.2.1 < 0 by have := he.at_; omega), (lR c ms (by omega)).2.1, (lR c ms (by omega)).2.2.2 hr, QR]
 by_cases h1 : e.1 = 1
 · obtain ⟨⟨a1, a2⟩, a3⟩ := he.SQ h1; rw [af h1, af a1, af a2, af (show ((ByteArray.size e.2.2.2.2.1 : Nat) : Int) ≤ 60 by omega)]; rfl
 · obtain ⟨a1, a2⟩ := he.no h1; rw [ai h1, af a1, a2]; show some (j3 ByteArray.empty ByteArray.empty, ()) = _; rw [l7]
theorem SY (xs : List la) {k : Nat} (hk : k < xs.length) : Kx xs ((k : Nat) : Int) ((k + 1 : Nat) : Int) = some (xs.take k ++ xs.drop (k + 1), ()) := by
 unfold Kx; rw [af (show (0 : Int) ≤ ((k : Nat) : Int) by omega), af (show ((k + 1 : Nat) : Int) = ((k : Nat) : Int) + 1 by omega), af (show ((k : Nat) : Int) < ((List.length xs : Nat) : Int) by omega)]; rfl
theorem SZ {n : Nat} {w : aX} (h : jO n w) (hn : n ≤ 1000000) {e : lF} (he : Ci w.2.1 e) : ∃ a w', l8 w.1 w.2.1 w.2.2.1 w.2.2.2.1 w.2.2.2.2.1 w.2.2.2.2.2.1 e.1 e.2.1 e.2.2.1 e.2.2.2.1 e.2.2.2.2.1 = some (a, w'.1, w'.2.1, w'.2.2.1, w'.2.2.2.1, w'.2.2.2.2.1, w'.2.2.2.2.2.1, ()) ∧ qh w.1 w.2.1 w.2.2.1 w.2.2.2.1 w.2.2.2.2.1 w.2.2.2.2.2.1 e.1 e.2.1 e.2.2.1 e.2.2.2.1 e.2.2.2.2.1 = some (a, w'.1, w'.2.1, w'.2.2.1, w'.2.2.2.1, w'.2.2.2.2.1, w'.2.2.2.2.2.1, ()) ∧ jO (n + 1) w' ∧ Step w e w' := by
 obtain ⟨q0, q1, q2⟩ := h.Bc; have NT := h.vn; obtain ⟨a, e1, i1, hq⟩ := L7 h e.2.1; have hq : ∃ k, ∃ hk : k < w.2.2.1.length, a = ((k : Nat) : Int) ∧ (w.2.2.1[k]).1 = e.2.1 := by
   rcases hq with ⟨_, g⟩ | g
   · obtain ⟨j, hj, ej⟩ := List.mem_iff_getElem.1 he.id; have IA : j < w.2.2.1.length := by rw [h.len]; exact hj
     exact absurd ((h.ids j IA hj).trans (congrArg Prod.fst ej)) (g j IA)
   · exact g
 obtain ⟨k, hk, rfl, pM⟩ := hq; have hm := h.ld _ (List.getElem_mem hk); unfold l8 qh
 try simp only [bZ]
 simp only [e1, i1, Option.bind_some]
 by_cases k1 : e.1 = 1
 · obtain ⟨a1, a2⟩ := he.SQ k1; obtain ⟨e2, i2⟩ := I6 w.2.2.1[k] e.2.2.2.1 e.2.2.2.2.1 (Nat.le_trans hm.small (by decide)); simp only [af k1, cond_true, ak, au, eZ hk, List.getElem?_eq_getElem hk, Option.bind_some]; rw [e2, i2]; simp only [Option.bind_some]
   cases hb : (iV w.2.2.1[k] e.2.2.2.1 e.2.2.2.2.1).2
   · exact ⟨1, w, rfl, rfl, h.up (Nat.le_succ n), .same⟩
   · have Hc : I5 w.2.2.1[k] e.2.2.2.1 e.2.2.2.2.1 = true := by
       unfold iV at hb
       cases YP : I5 w.2.2.1[k] e.2.2.2.1 e.2.2.2.2.1
       · rw [YP] at hb; cases hb
       · rfl
     have hs : (iV w.2.2.1[k] e.2.2.2.1 e.2.2.2.2.1).1 = Ae w.2.2.1[k] e.2.2.2.1 e.2.2.2.2.1 := by unfold iV; rw [Hc]; rfl
     unfold I5 at Hc; simp only [Bool.and_eq_true, decide_eq_true_eq] at Hc; have e3 := oS w (by omega) hk (Ae w.2.2.1[k] e.2.2.2.1 e.2.2.2.2.1); rw [hs]; simp only [Bool.not_true, cond_false]; rw [e3]; exact ⟨0, _, rfl, rfl, (h.gS hk (L2 hm a1 a2 Hc.2.2.2) rfl).up (Nat.le_succ n), .SQ k hk pM k1⟩
 by_cases k7 : e.1 = 7
 · obtain ⟨w', e2, i2, hw⟩ := NX e h hn hk; simp only [ai k1, af k7, cond_true, cond_false]; rw [e2, i2]; exact ⟨0, w', rfl, rfl, hw⟩
 by_cases k6 : e.1 = 6
 · obtain ⟨b, w', e2, i2, hw⟩ := K8 e h hn hk; simp only [ai k1, ai k7, af k6, cond_true, cond_false]; rw [e2, i2]; exact ⟨b, w', rfl, rfl, hw⟩
 simp only [ai k1, ai k7, ai k6, cond_false]; unfold pv
 by_cases h0 : w.2.2.2.1.length = 0
 · rw [af (show ((List.length w.2.2.2.1 : Nat) : Int) = 0 by omega)]; exact ⟨1, w, rfl, rfl, h.up (Nat.le_succ n), .same⟩
 obtain ⟨i, hi⟩ := Int.eq_ofNat_of_zero_le he.at_; have bN : i % w.2.2.2.1.length < w.2.2.2.1.length := Nat.mod_lt _ (by omega); generalize hj : i % w.2.2.2.1.length = j at bN; have et : Int.tmod e.2.2.1 ((List.length w.2.2.2.1 : Nat) : Int) = ((j : Nat) : Int) := by rw [hi, ← hj]; exact xc _ _
 have hF := h.pP _ (List.getElem_mem bN); simp only [ai (show ¬ ((List.length w.2.2.2.1 : Nat) : Int) = 0 by omega), cond_false, et, ak, au, eZ bN, List.getElem?_eq_getElem bN, Option.bind_some, cond_true]
 by_cases k5 : e.1 = 5
 · simp only [af k5, cond_true, aF (show (0 + w.2.2.2.1.length) * 120 ≤ lim by unfold lim; omega), List.nil_append, aF (show (w.2.2.2.1.length + 1) * 120 ≤ lim by unfold lim; omega), uC, (fY (w.2.2.2.1[j]).2.2.1 (w.2.2.2.1[j]).2.2.2.1 (w.2.2.2.1[j]).2.2.2.2.1 (w.2.2.2.1[j]).2.2.2.2.2.1 (w.2.2.2.1[j]).2.2.2.2.2.2.1 (w.2.2.2.1[j]).2.2.2.2.2.2.2.1 hF).2, Option.bind_some]; refine ⟨0, fG w (w.2.2.2.1 ++ [w.2.2.2.1[j]]), rfl, rfl, (h.up (Nat.le_succ n)).my (fun f hf => ?_) ?_, .dup j bN⟩
   · rcases List.mem_append.1 hf with hf | hf
     · exact h.pP f hf
     · rw [List.mem_singleton] at hf; subst hf; exact hF
   · rw [List.length_append, List.length_singleton]; omega
 have Oa : (List.take j w.2.2.2.1).length ≤ w.2.2.2.1.length := by rw [List.length_take]; omega
 have RJ : (List.drop (j + 1) w.2.2.2.1).length ≤ w.2.2.2.1.length := by rw [List.length_drop]; omega
 have hW : jO n (fG w (List.take j w.2.2.2.1 ++ List.drop (j + 1) w.2.2.2.1)) := h.my (fun f hf => by
   rcases List.mem_append.1 hf with hf | hf
   · exact h.pP f (List.mem_of_mem_take hf)
   · exact h.pP f (List.mem_of_mem_drop hf)) (by rw [List.length_append, List.length_take, List.length_drop]; omega)
 obtain ⟨b, w', e2, i2, hw⟩ := NY hW hn w.2.2.2.1[j] hF; have e2 : iA w.1 w.2.1 w.2.2.1 (List.take j w.2.2.2.1 ++ List.drop (j + 1) w.2.2.2.1) w.2.2.2.2.1 w.2.2.2.2.2.1 (w.2.2.2.1[j]).1 (w.2.2.2.1[j]).2.1 (w.2.2.2.1[j]).2.2.1 (w.2.2.2.1[j]).2.2.2.1 (w.2.2.2.1[j]).2.2.2.2.1 (w.2.2.2.1[j]).2.2.2.2.2.1 (w.2.2.2.1[j]).2.2.2.2.2.2.1 (w.2.2.2.1[j]).2.2.2.2.2.2.2.1 (w.2.2.2.1[j]).2.2.2.2.2.2.2.2.1 (w.2.2.2.1[j]).2.2.2.2.2.2.2.2.2.1 (w.2.2.2.1[j]).2.2.2.2.2.2.2.2.2.2.1 (w.2.2.2.1[j]).2.2.2.2.2.2.2.2.2.2.2.1 = some (b, w'.1, w'.2.1, w'.2.2.1, w'.2.2.2.1, w'.2.2.2.2.1, w'.2.2.2.2.2.1, ()) := e2; have i2 : kM w.1 w.2.1 w.2.2.1 (List.take j w.2.2.2.1 ++ List.drop (j + 1) w.2.2.2.1) w.2.2.2.2.1 w.2.2.2.2.2.1 (w.2.2.2.1[j]).1 (w.2.2.2.1[j]).2.1 (w.2.2.2.1[j]).2.2.1 (w.2.2.2.1[j]).2.2.2.1 (w.2.2.2.1[j]).2.2.2.2.1 (w.2.2.2.1[j]).2.2.2.2.2.1 (w.2.2.2.1[j]).2.2.2.2.2.2.1 (w.2.2.2.1[j]).2.2.2.2.2.2.2.1 (w.2.2.2.1[j]).2.2.2.2.2.2.2.2.1 (w.2.2.2.1[j]).2.2.2.2.2.2.2.2.2.1 (w.2.2.2.1[j]).2.2.2.2.2.2.2.2.2.2.1 (w.2.2.2.1[j]).2.2.2.2.2.2.2.2.2.2.2.1 = some (b, w'.1, w'.2.1, w'.2.2.1, w'.2.2.2.1, w'.2.2.2.2.1, w'.2.2.2.2.2.1, ()) := i2; simp only [ai k5, cond_false, af (show ((j : Nat) : Int) ≤ ((List.length w.2.2.2.1 : Nat) : Int) by omega), cond_true, List.drop_zero, List.nil_append, aC (show j < 4611686018427387904 by omega), ak, au, SY _ bN, Option.bind_some,
   af (show (((j + 1 : Nat)) : Int) ≤ ((List.length w.2.2.2.1 : Nat) : Int) by omega), aF (show (0 + (List.take j w.2.2.2.1).length) * 120 ≤ lim by unfold lim; omega), aF (show ((List.take j w.2.2.2.1).length + (List.drop (j + 1) w.2.2.2.1).length) * 120 ≤ lim by unfold lim; omega), bZ]
 by_cases k4 : e.1 = 4
 · rw [af k4]; exact ⟨0, _, rfl, rfl, hW.up (Nat.le_succ n), .drop j bN⟩
 · rw [ai k4, e2, i2]; exact ⟨b, w', rfl, rfl, hw.1, .SX j bN w' hw.2⟩
end Go.TM
set_option linter.unusedSimpArgs false
set_option linter.unusedVariables false
namespace Go.TM
open Go
theorem Gi {X E : Type} {round : X → Option (Sum X E)} {s s' : X} {x : E} (h : round s = some (.inl s')) (hx : aA round s' = some x) : aA round s = some x := by
 rw [ir, h]; exact hx
theorem Bh {X E : Type} {round : X → Option (Sum X E)} {s : X} {x : E} (h : round s = some (.inr x)) : aA round s = some x := by
 rw [ir, h]
theorem Hg {c : Int} {ms : bV} (hr : lk c ms) : mX c ms = some ((cr c ms (ms[0]'hr.2.1.1).1).1, (cr c ms (ms[0]'hr.2.1.1).1).2.1, (cr c ms (ms[0]'hr.2.1.1).1).2.2.1, (cr c ms (ms[0]'hr.2.1.1).1).2.2.2.1, (cr c ms (ms[0]'hr.2.1.1).1).2.2.2.2.1, (cr c ms (ms[0]'hr.2.1.1).1).2.2.2.2.2.1, true, ()) := by
 have hl := hr.2.1.2; have Oa := hr.2.1.1; have h : ms.length ≤ 1048576 := by omega
 have r1 := (lR c ms h).2.1; rw [(lR c ms h).2.2.2 hr] at r1; have l1 := bd (round := hY) (e := .inl (c, ms, (0 : Int), [], [], [], [], [], c, ms, ms.map fun m => dM c ms m.1, [], List.replicate ms.length ([], ()), [], ())) ms.length (fun k => (c, ms, (0 : Int), [], [], [], [], [], c, ms, (ms.take k).map fun m => dM c ms m.1, [], List.replicate ms.length ([], ()), [], ms, ((List.length ms : Nat) : Int), ((k : Nat) : Int), ())) (by
   simp only [hY, pn, az, cond_false, List.take_length]) (fun k hk => by
   simp only [hY, pn, aw hk, ak, cond_true, au, List.getElem?_eq_getElem hk, Option.bind_some, G9 c ms ms[k].1 h r1 (List.getElem_mem hk), List.length_map, List.length_take, Nat.min_eq_left (Nat.le_of_lt hk), aF (show (k + 1) * 208 ≤ lim by unfold lim; omega), aC (show k < 4611686018427387904 by omega)]; rw [map_take _ _ hk]; rfl)
 have l1 : aA hY (c, ms, (0 : Int), [], [], [], [], [], c, ms, [], [], List.replicate ms.length ([], ()), [], ms, ((List.length ms : Nat) : Int), (0 : Int), ()) = _ := l1; have hf : lO c ms = some (c, 1, 0, 0, 0, [], ()) := by unfold lO; rw [r1]; rfl
 unfold mX; simp only [r1, Option.bind_some, Bool.not_true, cond_false, cond_true, EX c ms h, af rfl, ak, au, aF (show ms.length * 24 ≤ lim by unfold lim; omega), bZ, l1, bz, List.getElem?_eq_getElem (show 0 < ms.length by omega), hf]; rfl
theorem QS {c : Int} {ms : bV} (hr : lk c ms) (fc : List lF) (hl : fc.length ≤ 89) (he : ∀ e ∈ fc, Ci ms e) (P : aX → Prop) (h0 : P (cr c ms (ms[0]'hr.2.1.1).1))
   (hs : ∀ n w w' e, n < fc.length → e ∈ fc → cW n c ms w → cW (n + 1) c ms w' → P w → Step w e w' → P w') :
   ∃ (w : aX) (jt : bV), m9 c ms fc = some (w.1, w.2.1, w.2.2.1, w.2.2.2.1, w.2.2.2.2.1, w.2.2.2.2.2.1, jt, true, ()) ∧ nb c ms fc = some (w.1, w.2.1, w.2.2.1, w.2.2.2.1, w.2.2.2.2.1, w.2.2.2.2.2.1, jt, true, ()) ∧ jt.length = fc.length ∧ cW fc.length c ms w ∧ P w := by
 generalize hw0 : cr c ms (ms[0]'hr.2.1.1).1 = w0 at h0; have hW0 : cW 0 c ms w0 := by rw [← hw0]; exact El hr _
 have e0 : fR c ms = some (w0.1, w0.2.1, w0.2.2.1, w0.2.2.2.1, w0.2.2.2.2.1, w0.2.2.2.2.2.1, true, ()) := by rw [← hw0]; exact B4 hr
 have i0 : mX c ms = some (w0.1, w0.2.1, w0.2.2.1, w0.2.2.2.1, w0.2.2.2.2.1, w0.2.2.2.2.2.1, true, ()) := by rw [← hw0]; exact Hg hr
 have l1 := bd (round := ij) (e := .inl (fc, (0 : Int), [], [], [], [], [], w0.1, w0.2.1, w0.2.2.1, w0.2.2.2.1, w0.2.2.2.2.1, w0.2.2.2.2.2.1, true, ())) fc.length (fun k => (fc, c, ms, (0 : Int), [], [], [], [], [], w0.1, w0.2.1, w0.2.2.1, w0.2.2.2.1, w0.2.2.2.2.1, w0.2.2.2.2.2.1, true, ((k : Nat) : Int), ())) (by
   simp only [ij, pD, az, cond_false]) (fun k hk => by
   simp only [ij, pD, aw hk, cond_true, af (show ((List.length fc : Nat) : Int) ≤ 90 by omega), ak, au, List.getElem?_eq_getElem hk, Option.bind_some, lH hr (he _ (List.getElem_mem hk)), aC (show k < 4611686018427387904 by omega)])
 have l1 : aA ij (fc, c, ms, (0 : Int), [], [], [], [], [], w0.1, w0.2.1, w0.2.2.1, w0.2.2.2.1, w0.2.2.2.2.1, w0.2.2.2.2.2.1, true, (0 : Int), ()) = _ := l1; have m1 := bd (round := ib) (e := .inl (fc, c, ms, (0 : Int), [], [], [], [], [], ())) fc.length (fun k => (fc, c, ms, (0 : Int), [], [], [], [], [], fc, ((List.length fc : Nat) : Int), ((k : Nat) : Int), ())) (by
   simp only [ib, pw, az, cond_false]) (fun k hk => by
   simp only [ib, pw, aw hk, cond_true, ak, au, List.getElem?_eq_getElem hk, Option.bind_some, NZ hr (he _ (List.getElem_mem hk)), aC (show k < 4611686018427387904 by omega), Bool.not_true, cond_false])
 have m1 : aA ib (fc, c, ms, (0 : Int), [], [], [], [], [], fc, ((List.length fc : Nat) : Int), (0 : Int), ()) = _ := m1; have key : ∀ k, k ≤ fc.length → ∃ (w : aX) (jt : bV), jt.length = k ∧ cW k c ms w ∧ P w ∧
     (∀ x, aA ik (fc, (0 : Int), [], [], [], [], [], w.1, w.2.1, w.2.2.1, w.2.2.2.1, w.2.2.2.2.1, w.2.2.2.2.2.1, jt, ((k : Nat) : Int), ()) = some x → aA ik (fc, (0 : Int), [], [], [], [], [], w0.1, w0.2.1, w0.2.2.1, w0.2.2.2.1, w0.2.2.2.2.1, w0.2.2.2.2.2.1, [], (0 : Int), ()) = some x) ∧
     (∀ x, aA ic ((0 : Int), [], [], [], [], [], w.1, w.2.1, w.2.2.1, w.2.2.2.1, w.2.2.2.2.1, w.2.2.2.2.2.1, jt, fc, ((List.length fc : Nat) : Int), ((k : Nat) : Int), ()) = some x → aA ic ((0 : Int), [], [], [], [], [], w0.1, w0.2.1, w0.2.2.1, w0.2.2.2.1, w0.2.2.2.2.1, w0.2.2.2.2.2.1, [], fc, ((List.length fc : Nat) : Int), (0 : Int), ()) = some x) := by
   intro k
   induction k with
   | zero => exact fun _ => ⟨w0, [], rfl, hW0, h0, fun x h => h, fun x h => h⟩
   | succ k ih =>
     intro hk; obtain ⟨w, jt, q, hw, hp, g1, g2⟩ := ih (by omega); have hk : k < fc.length := hk; obtain ⟨b, w', e1, YN, Cb⟩ := L5 hw (by omega) (he _ (List.getElem_mem hk)); have hm : Ci w.2.1 fc[k] := by rw [hw.self.2]; exact he _ (List.getElem_mem hk)
     obtain ⟨b2, w2, e2, e3, _, qn⟩ := SZ hw.x (by omega) hm; have e4 : some (b, w') = some (b2, w2) := e1.symm.trans e2; injection e4 with e4; injection e4 with e4 e5; subst e4 e5; refine ⟨w', jt ++ [(b, ())], by rw [List.length_append, q]; rfl, YN, hs k w w' fc[k] hk (List.getElem_mem hk) hw YN hp qn, fun x hx => g1 x ?_, fun x hx => g2 x ?_⟩
     · refine Gi (s' := (fc, (0 : Int), [], [], [], [], [], w'.1, w'.2.1, w'.2.2.1, w'.2.2.2.1, w'.2.2.2.2.1, w'.2.2.2.2.2.1, jt ++ [(b, ())], ((k + 1 : Nat) : Int), ())) ?_ hx; simp only [ik, pE, aw hk, cond_true, ak, au, List.getElem?_eq_getElem hk, Option.bind_some, e1, aF (show (jt.length + 1) * 8 ≤ lim by rw [q]; unfold lim; omega), aC (show k < 4611686018427387904 by omega)]
     · refine Gi (s' := ((0 : Int), [], [], [], [], [], w'.1, w'.2.1, w'.2.2.1, w'.2.2.2.1, w'.2.2.2.2.1, w'.2.2.2.2.2.1, jt ++ [(b, ())], fc, ((List.length fc : Nat) : Int), ((k + 1 : Nat) : Int), ())) ?_ hx; simp only [ic, px, aw hk, cond_true, ak, au, List.getElem?_eq_getElem hk, Option.bind_some, e3, aF (show (jt.length + 1) * 8 ≤ lim by rw [q]; unfold lim; omega), aC (show k < 4611686018427387904 by omega)]
 obtain ⟨w, jt, q, hw, hp, g1, g2⟩ := key _ (Nat.le_refl _); have l2 := g1 (.inl ((0 : Int), [], [], [], [], [], w.1, w.2.1, w.2.2.1, w.2.2.2.1, w.2.2.2.2.1, w.2.2.2.2.2.1, jt, ())) (Bh (by simp only [ik, pE, az, cond_false])); have m2 := g2 (.inl ((0 : Int), [], [], [], [], [], w.1, w.2.1, w.2.2.1, w.2.2.2.1, w.2.2.2.2.1, w.2.2.2.2.2.1, jt, ())) (Bh (by simp only [ic, px, az, cond_false])); refine ⟨w, jt, ?_, ?_, q, hw, hp⟩
 · unfold m9; simp only [ai (show ¬ (90 : Int) < ((List.length fc : Nat) : Int) by omega), cond_false, m1, bz, i0, Option.bind_some, Bool.not_true, m2]
 · unfold nb; simp only [e0, Option.bind_some, l1, bz, Bool.not_true, cond_false, l2, QN hw (by omega)]
end Go.TM
set_option linter.unusedSimpArgs false
set_option linter.unusedVariables false
namespace Go.TM
open Go
def Hh (fc : List lF) (id Og : Int) (text : ByteArray) : Prop := ∃ e ∈ fc, e.1 = 1 ∧ e.2.1 = id ∧ e.2.2.2.1 = Og ∧ e.2.2.2.2.1 = text
def iC (fc : List lF) (m : bt) : Prop := ∀ i (h : i < m.2.2.2.2.2.1.length) (h2 : i < m.2.2.2.2.1.length), Hh fc m.1 (m.2.2.2.2.1[i]).1 (m.2.2.2.2.2.1[i]).1
structure Jg (fc : List lF) (ms : bV) (w : aX) : Prop where
 num : ∀ i (hi : i < w.2.2.2.2.2.1.length), (w.2.2.2.2.2.1[i]).1 = ((i + 1 : Nat) : Int)
 Hi : ∃ R, pK R ((w.2.2.2.2.2.1.length : Nat) : Int) ms w
 texts : ∀ m ∈ w.2.2.1, iC fc m
 from_ : ∀ x ∈ w.2.2.2.2.2.1, Hh fc x.2.1 x.2.2.1 x.2.2.2.1
theorem xe {fc : List lF} {l : List bt} (k : Nat) (m : bt) (h : ∀ m ∈ l, iC fc m) (hm : iC fc m) : ∀ x ∈ l.set k m, iC fc x := fun x hx => by
 rcases List.mem_or_eq_of_mem_set hx with hx | rfl
 · exact h x hx
 · exact hm
theorem iC.same {fc : List lF} {m m' : bt} (h : iC fc m) (h1 : m'.1 = m.1) (h2 : m'.2.2.2.2.1 = m.2.2.2.2.1) (h3 : m'.2.2.2.2.2.1 = m.2.2.2.2.2.1) : iC fc m' := by
 intro i a b; simp only [h1, h2, h3] at a b ⊢; exact h i a b
theorem N0 {fc : List lF} {m : bt} {e : lF} (he : e ∈ fc) (h1 : e.1 = 1) (pM : m.1 = e.2.1) (hl : m.2.2.2.2.1.length = m.2.2.2.2.2.1.length) (h : iC fc m) : iC fc (Ae m e.2.2.2.1 e.2.2.2.2.1) := by
 intro i h2 h3; have h2 : i < (m.2.2.2.2.2.1 ++ [(e.2.2.2.2.1, ())]).length := h2; have h3 : i < (m.2.2.2.2.1 ++ [(e.2.2.2.1, ())]).length := h3; show Hh fc m.1 ((m.2.2.2.2.1 ++ [(e.2.2.2.1, ())])[i]).1 ((m.2.2.2.2.2.1 ++ [(e.2.2.2.2.1, ())])[i]).1; rw [List.length_append, List.length_singleton] at h2 h3
 by_cases g : i < m.2.2.2.2.2.1.length
 · rw [List.getElem_append_left g, List.getElem_append_left (by omega)]; exact h i g (by omega)
 · have e1 : i = m.2.2.2.2.2.1.length := by omega
   subst e1; rw [List.getElem_append_right (Nat.le_refl _), List.getElem_append_right (by omega)]; simp only [hl, Nat.sub_self, List.getElem_cons_zero]; exact ⟨e, he, h1, pM.symm, rfl, rfl⟩
theorem La {fc : List lF} {m m' : bt} {t nx : jZ} {said : aG} {j : Nat} (H : NO m t m' said j nx) (h : iC fc m) : iC fc m' := by
 intro i h2 h3; obtain ⟨e1, e2⟩ := H.words; simp only [e1, e2, H.id.1] at h2 h3 ⊢; rw [List.length_drop] at h2 h3; rw [List.getElem_drop, List.getElem_drop]; exact h (j + i) (by omega) (by omega)
theorem N1 {fc : List lF} {m : bt} (hm : pH m) (h : iC fc m) {s : Int} {i : Nat} (hi : i < m.2.2.2.2.2.1.length) : Hh fc (qj s m.1 m.2.2.2.2.1 m.2.2.2.2.2.1 i).2.1 (qj s m.1 m.2.2.2.2.1 m.2.2.2.2.2.1 i).2.2.1 (qj s m.1 m.2.2.2.2.1 m.2.2.2.2.2.1 i).2.2.2.1 := by
 have hl := hm.texts.2; have h2 : i < m.2.2.2.2.1.length := by omega
 obtain ⟨e, he, e1, e2, e3, e4⟩ := h i hi h2; have hv := hm.Og i h2 h2; simp only [Bool.and_eq_true, decide_eq_true_eq] at hv; refine ⟨e, he, e1, e2, ?_, ?_⟩
 · rw [e3]; show _ = (bif decide (i < m.2.2.2.2.1.length) && decide ((m.2.2.2.2.1.getD i ((0 : Int), ())).1 = 2) then 2 else 1); rw [List.getD_eq_getElem?_getD, List.getElem?_eq_getElem h2, Option.getD_some, decide_eq_true h2, Bool.true_and]
   by_cases g : (m.2.2.2.2.1[i]).1 = 2
   · rw [decide_eq_true g, g]; rfl
   · rw [decide_eq_false g]; show _ = (1 : Int); omega
 · rw [e4]; show _ = (m.2.2.2.2.2.1.getD i (ByteArray.empty, ())).1; rw [List.getD_eq_getElem?_getD, List.getElem?_eq_getElem hi, Option.getD_some]
theorem yN {m : bt} {f : la} {m' : bt} {said : aG} {j : Nat} {nx : jZ} (H : NO m (f.2.2.1, f.2.2.2.1, f.2.2.2.2.1, f.2.2.2.2.2.1, f.2.2.2.2.2.2.1, f.2.2.2.2.2.2.2.1, ()) m' said j nx) (hT : z7 (f.2.2.1, f.2.2.2.1, f.2.2.2.2.1, f.2.2.2.2.2.1, f.2.2.2.2.2.2.1, f.2.2.2.2.2.2.2.1, ())) : lE f said = cK f.2.2.2.2.1 m.1 m.2.2.2.2.1 m.2.2.2.2.2.1 j := by
 rw [Gh H hT rfl, H.said, List.length_append, eU, Nat.add_sub_cancel, List.drop_left]
theorem N2 {fc : List lF} {n R : Nat} {c : Int} {ms : bV} {w w' : aX} {f : la} (hW : cW n c ms w) (h : Jg fc ms w) (hR : pK R ((w.2.2.2.2.2.1.length : Nat) : Int) ms w) (hN : Be R ((w.2.2.2.2.2.1.length : Nat) : Int) ms f) (hf : I9 f) (hc : Came w f w') : Jg fc ms w' := by
 cases hc with
 | no => exact h
 | Hf k hk pM ht =>
   have hx := hf.item ht; have hm := (hW.ld _ (List.getElem_mem hk)).1; rw [tf hm hx]; exact
   { num := h.num
     Hi := ⟨R, hR.Ah hk (Bg (hR.gS k hk) (hN.item ht))⟩
     texts := xe k _ h.texts ((h.texts _ (List.getElem_mem hk)).same rfl rfl rfl)
     from_ := h.from_ }
 | held k hk pM ht m' said j nx hT hr H =>
   have hm := (hW.ld _ (List.getElem_mem hk)).1; have hq := Ek hW hR hN ht hk pM rfl H hr rfl; have hn := yN H hT; obtain ⟨_, _, _, r4⟩ := xd hW hR hN ht hk pM hr; rw [r4] at hn; have hs : (Gg w k f m' said nx).2.2.2.2.2.1 = w.2.2.2.2.2.1 ++ lE f said := rfl; have hl : (Gg w k f m' said nx).2.2.2.2.2.1.length = w.2.2.2.2.2.1.length + j := by rw [hs, hn, List.length_append, eU]
   have hj := H.vn.2.1; refine ⟨fun i hi => ?_, ⟨R + 1, ?_⟩, ?_, fun x hx => ?_⟩
   · have Of := hi; rw [hl] at Of; have e0 : (Gg w k f m' said nx).2.2.2.2.2.1[i] = (w.2.2.2.2.2.1 ++ lE f said)[i]'(by rw [← hs]; exact hi) := rfl; rw [e0]
     by_cases g : i < w.2.2.2.2.2.1.length
     · rw [List.getElem_append_left g]; exact h.num i g
     · rw [List.getElem_append_right (by omega)]; simp only [hn]; rw [Af]; show ((w.2.2.2.2.2.1.length : Nat) : Int) + ((i - w.2.2.2.2.2.1.length + 1 : Nat) : Int) = _; omega
   · rw [hl, Int.natCast_add]; exact hq
   · exact xe k m' h.texts (La H (h.texts _ (List.getElem_mem hk)))
   · rw [hs] at hx; rcases List.mem_append.1 hx with hx | hx
     · exact h.from_ x hx
     · rw [hn] at hx; obtain ⟨i, hi, rfl⟩ := ql hx; exact N1 hm (h.texts _ (List.getElem_mem hk)) (by omega)
theorem Em {R : Nat} {S : Int} {len k : Nat} {m : bt} (h : tg R S len k m) (v : Int) : tg R S len k (eP m v) := h.same rfl rfl rfl
theorem Jh {fc : List lF} {m : bt} (h : iC fc m) (v : Int) : iC fc (eP m v) := h.same rfl rfl rfl
theorem N3 {fc : List lF} {n : Nat} {c : Int} {ms : bV} {w w' : aX} {e : lF} (he : e ∈ fc) (hW : cW n c ms w) (h : Jg fc ms w) (hs : Step w e w') : Jg fc ms w' := by
 obtain ⟨R, hR⟩ := h.Hi
 cases hs with
 | same => exact h
 | SQ k hk pM h1 =>
   have hm := (hW.ld _ (List.getElem_mem hk)).1; exact
   { num := h.num
     Hi := ⟨R, hR.Ah hk ((hR.gS k hk).same rfl rfl rfl)⟩
     texts := xe k (Ae w.2.2.1[k] e.2.2.2.1 e.2.2.2.2.1) h.texts (N0 he h1 pM hm.texts.2 (h.texts _ (List.getElem_mem hk)))
     from_ := h.from_ }
 | SW k hk kQ j hj hw =>
   have h4 := hR.Ah hk (Em (hR.gS k hk) ((w.2.2.1[k]).2.2.2.2.2.2.2.2.2.1 + ((j : Nat) : Int))); have h5 := xe k _ h.texts (Jh (h.texts _ (List.getElem_mem hk)) ((w.2.2.1[k]).2.2.2.2.2.2.2.2.2.1 + ((j : Nat) : Int))); exact { num := h.num, Hi := ⟨R, { iG := h4.iG, gS := h4.gS, said := h4.said }⟩, texts := h5, from_ := h.from_ }
 | again k hk hb => exact { num := h.num, Hi := ⟨R, Bf hW hR hk hb⟩, texts := h.texts, from_ := h.from_ }
 | dup j hj =>
   refine { num := h.num, Hi := ⟨R, hR.my fun f hf => ?_⟩, texts := h.texts, from_ := h.from_ }; rcases List.mem_append.1 hf with hf | hf
   · exact hR.iG f hf
   · rw [List.mem_singleton] at hf; subst hf; exact hR.iG _ (List.getElem_mem hj)
 | drop j hj =>
   refine { num := h.num, Hi := ⟨R, hR.my fun f hf => ?_⟩, texts := h.texts, from_ := h.from_ }; rcases List.mem_append.1 hf with hf | hf
   · exact hR.iG f (List.mem_of_mem_take hf)
   · exact hR.iG f (List.mem_of_mem_drop hf)
 | SX j hj w' hc =>
   have NT := hW.vn; have AR : cW n c ms (fG w (List.take j w.2.2.2.1 ++ List.drop (j + 1) w.2.2.2.1)) := hW.my (fun f hf => by
     rcases List.mem_append.1 hf with hf | hf
     · exact hW.iG f (List.mem_of_mem_take hf)
     · exact hW.iG f (List.mem_of_mem_drop hf)) (by rw [List.length_append, List.length_take, List.length_drop]; omega)
   have UR : pK R ((w.2.2.2.2.2.1.length : Nat) : Int) ms (fG w (List.take j w.2.2.2.1 ++ List.drop (j + 1) w.2.2.2.1)) := hR.my fun f hf => by
     rcases List.mem_append.1 hf with hf | hf
     · exact hR.iG f (List.mem_of_mem_take hf)
     · exact hR.iG f (List.mem_of_mem_drop hf)
   exact N2 AR { num := h.num, Hi := ⟨R, UR⟩, texts := h.texts, from_ := h.from_ } UR (hR.iG _ (List.getElem_mem hj)) (hW.iG _ (List.getElem_mem hj)) hc
theorem QT {c : Int} {ms : bV} (hr : lk c ms) (fc : List lF) : Jg fc ms (cr c ms (ms[0]'hr.2.1.1).1) := {
 num := fun i hi => by cases hi
 Hi := ⟨1, B5 hr⟩
 texts := fun m hm => by
   have hm : m ∈ ms.map fun m => dM c ms m.1 := hm
   obtain ⟨x, hx, rfl⟩ := List.mem_map.1 hm; exact fun i hi => by cases hi
 from_ := fun x hx => by cases hx }
end Go.TM
set_option linter.unusedSimpArgs false
set_option linter.unusedVariables false
namespace Go.TM
open Go
def Ji (g : Nat → Int) (k : Nat) (v : Int) : Nat → Int := fun i => if i = k then v else g i
theorem jq (g : Nat → Int) (k : Nat) (v : Int) : Ji g k v k = v := by unfold Ji; rw [if_pos rfl]
theorem dL (g : Nat → Int) {k i : Nat} (v : Int) (h : i ≠ k) : Ji g k v i = g i := by unfold Ji; rw [if_neg h]
def Zh (len : Nat) (B : Int) (xp q : Nat → Int) (r : Int) : Prop := B ≠ 0 ∧ ∃ b, b < len ∧ xp b = B ∧ r ≤ q b
structure E0 (len : Nat) (S A B : Int) (xp q seen line Cg : Nat → Int) : Prop where
 cap : 0 ≤ A ∧ A ≤ S
 zero : B = 0 → A = S
 pos : ∀ k, k < len → 0 ≤ Cg k
 top : ∀ k, k < len → seen k ≤ S
 vis : ∀ k, k < len → (q k = 0 ∧ seen k = 0) ∨ 1 ≤ q k
 one : ∀ i, i < len → 1 ≤ q i → seen i ≤ A ∨ Zh len B xp q (q i)
 two : ∀ i j, i < len → j < len → 1 ≤ q i → q i < q j → seen i ≤ Cg j ∨ (A ≤ Cg j ∧ Zh len B xp q (q i))
 line : ∀ i j, i < len → j < len → line i ≤ Cg j
theorem E0.grow {len : Nat} {S A B : Int} {xp q seen line Cg adt : Nat → Int} (h : E0 len S A B xp q seen line Cg) (hg : ∀ k, k < len → Cg k ≤ adt k) : E0 len S A B xp q seen line adt :=
 { h with
   pos := fun k hk => by have := h.pos k hk; have := hg k hk; omega
   two := fun i j hi hj h1 h2 => by
     have := hg j hj; rcases h.two i j hi hj h1 h2 with g | ⟨g, g2⟩
     · exact .inl (by omega)
     · exact .inr ⟨by omega, g2⟩
   line := fun i j hi hj => by have := h.line i j hi hj; have := hg j hj; omega }
theorem E0.hold {len R : Nat} {S A B S' a ln : Int} {xp q seen line Cg : Nat → Int} (h : E0 len S A B xp q seen line Cg) {k : Nat} (hk : k < len) (ajB : ∀ i j, i < len → j < len → xp i = xp j → i = j) (hd : xp k ≠ 0)
   (hC : ∀ i, i < len → i ≠ k → 1 ≤ q k → q k < q i) (hR : ∀ i, i < len → q i < ((R : Nat) : Int)) (UR : 1 ≤ R) (hS : S ≤ S') (ha : Cg k ≤ a) (Q5 : ln = line k ∨ (ln ≤ seen k ∧ ln ≤ A ∧ ln ≤ a))
   {A0 A' B' : Int} (h0 : A0 = if A = S ∧ B = 0 then S' else A) (hA : A' = wF S' A0 B (xp k) a) (hB : B' = wG S' A0 B (xp k) a) :
   E0 len S' A' B' xp (Ji q k ((R : Nat) : Int)) (Ji seen k A) (Ji line k ln) (Ji Cg k a) := by
 obtain ⟨hc0, hc1⟩ := h.cap; have hAA : A ≤ A0 ∧ A0 ≤ S' := by rw [h0]; split <;> omega
 have hnz : B ≠ 0 → A0 = A := fun hb => by rw [h0, if_neg fun g => hb g.2]
 have hz : B = 0 → A0 = S' := fun hb => by rw [h0, if_pos ⟨h.zero hb, hb⟩]
 have hpa := h.pos k hk; have hq' : ∀ i, i < len → q i ≤ Ji q k ((R : Nat) : Int) i := fun i hi => by
   by_cases e : i = k
   · subst e; rw [jq]; have := hR i hi; omega
   · rw [dL _ _ e]; exact Int.le_refl _
 have L8 : ∀ r, r ≤ ((R : Nat) : Int) → Zh len (xp k) xp (Ji q k ((R : Nat) : Int)) r := fun r hr => ⟨hd, k, hk, rfl, by rw [jq]; exact hr⟩
 have CN : ∀ r, Zh len B xp q r → Zh len B xp (Ji q k ((R : Nat) : Int)) r := fun r ⟨g, b, hb, e, hr⟩ => ⟨g, b, hb, e, by have := hq' b hb; omega⟩
 have EC : ∀ i, i < len → i ≠ k → 1 ≤ q i → B = xp k → ¬ Zh len B xp q (q i) := fun i hi fe h1 hb ⟨_, b, Fi, e, hr⟩ => by
   have e2 := ajB b k Fi hk (e.trans hb); subst e2; have := hC i hi fe (by omega); omega
 have Bi : (a < A0 ∧ A' = a ∧ B' = xp k) ∨ (A0 ≤ a ∧ B = xp k ∧ A0 = A ∧ A' ≤ a ∧ A' ≤ S' ∧ A ≤ A' ∧ ((B' = 0 ∧ A' = S') ∨ B' = B)) ∨ (A0 ≤ a ∧ B ≠ xp k ∧ A' = A0 ∧ B' = B) := by
   rw [hA, hB]; unfold wF wG
   by_cases g1 : a < A0
   · rw [if_pos g1, if_pos g1]; exact .inl ⟨g1, rfl, rfl⟩
   · rw [if_neg g1, if_neg g1]
     by_cases g2 : B = xp k
     · have e := hnz (by rw [g2]; exact hd); rw [if_pos g2, if_pos g2]; refine .inr (.inl ⟨by omega, g2, e, ?_, ?_, ?_, ?_⟩)
       · split <;> omega
       · split <;> omega
       · split <;> omega
       · by_cases g3 : S' ≤ a
         · rw [if_pos g3]; exact .inl ⟨rfl, by split <;> omega⟩
         · rw [if_neg g3]; exact .inr rfl
     · rw [if_neg g2, if_neg g2]; exact .inr (.inr ⟨by omega, g2, rfl, rfl⟩)
 refine { cap := ?_, zero := ?_, pos := fun i hi => ?_, top := fun i hi => ?_, vis := fun i hi => ?_, one := fun i hi h1 => ?_, two := fun i j hi hj h1 h2 => ?_, line := fun i j hi hj => ?_ }
 · rcases Bi with ⟨_, e, _⟩ | ⟨_, _, _, _, e1, e2, _⟩ | ⟨_, _, e, _⟩ <;> omega
 · intro hb; rcases Bi with ⟨_, _, e⟩ | ⟨_, g, _, _, _, _, e | e⟩ | ⟨_, _, e, e2⟩
   · rw [e] at hb; exact absurd hb hd
   · exact e.2
   · rw [e, g] at hb; exact absurd hb hd
   · rw [e]; exact hz (by rw [← e2]; exact hb)
 · by_cases e : i = k
   · subst e; rw [jq]; omega
   · rw [dL _ _ e]; exact h.pos i hi
 · by_cases e : i = k
   · subst e; rw [jq]; omega
   · rw [dL _ _ e]; have := h.top i hi; omega
 · by_cases e : i = k
   · subst e; rw [jq]; exact .inr (by omega)
   · rw [dL _ _ e, dL _ _ e]; exact h.vis i hi
 · by_cases e : i = k
   · subst e; rw [jq, jq]; rcases Bi with ⟨_, _, e⟩ | ⟨_, _, _, _, _, e, _⟩ | ⟨_, _, e, _⟩
     · rw [e]; exact .inr (L8 _ (Int.le_refl _))
     · exact .inl e
     · exact .inl (by omega)
   · rw [dL _ _ e] at h1; rw [dL _ _ e, dL _ _ e]; have hr := hR i hi; rcases Bi with ⟨_, _, e1⟩ | ⟨_, g, _, _, _, e1, _⟩ | ⟨_, _, e1, e2⟩
     · rw [e1]; exact .inr (L8 _ (by omega))
     · rcases h.one i hi h1 with q1 | q1
       · exact .inl (by omega)
       · exact absurd q1 (EC i hi e h1 g)
     · rcases h.one i hi h1 with q1 | q1
       · exact .inl (by omega)
       · rw [e2]; exact .inr (CN _ q1)
 · by_cases e : i = k
   · subst e; rw [jq] at h2; have := hR j hj
     by_cases e2 : j = i
     · subst e2; rw [jq] at h2; omega
     · rw [dL _ _ e2] at h2; omega
   · rw [dL _ _ e] at h1 h2; rw [dL _ _ e, dL _ _ e]; have hr := hR i hi
     by_cases e2 : j = k
     · subst e2; rw [jq]; rcases Bi with ⟨_, e3, e1⟩ | ⟨g0, g, g4, _, _, e1, _⟩ | ⟨_, _, e1, e3⟩
       · rw [e1]; exact .inr ⟨by omega, L8 _ (by omega)⟩
       · rcases h.one i hi h1 with q1 | q1
         · exact .inl (by omega)
         · exact absurd q1 (EC i hi e h1 g)
       · rcases h.one i hi h1 with q1 | q1
         · exact .inl (by omega)
         · rw [e3]; exact .inr ⟨by omega, CN _ q1⟩
     · rw [dL _ _ e2] at h2; rw [dL _ _ e2]; rcases h.two i j hi hj h1 h2 with q1 | ⟨q0, q1⟩
       · exact .inl q1
       · have eA := hnz q1.1; rcases Bi with ⟨_, e3, e1⟩ | ⟨g0, g, g4, _, _, e1, _⟩ | ⟨_, _, e1, e3⟩
         · rw [e1]; exact .inr ⟨by omega, L8 _ (by omega)⟩
         · exact absurd q1 (EC i hi e h1 g)
         · rw [e3]; exact .inr ⟨by omega, CN _ q1⟩
 · have ajC : ∀ j, j < len → Cg j ≤ Ji Cg k a j := fun j hj => by
     by_cases e : j = k
     · subst e; rw [jq]; exact ha
     · rw [dL _ _ e]; exact Int.le_refl _
   have h3 := ajC j hj
   by_cases e : i = k
   · subst e; rw [jq]; have h4 := h.line i j hi hj; rcases Q5 with e1 | ⟨e1, e2, e3⟩
     · omega
     · by_cases e4 : j = i
       · subst e4; rw [jq]; exact e3
       · rw [dL _ _ e4]; rcases h.vis i hi with ⟨v1, v2⟩ | v
         · have := h.pos j hj; omega
         · rcases h.two i j hi hj v (hC j hj e4 v) with g | ⟨g, _⟩ <;> omega
   · rw [dL _ _ e]; have := h.line i j hi hj; omega
end Go.TM
set_option linter.unusedSimpArgs false
set_option linter.unusedVariables false
namespace Go.TM
open Go
def Eu (m : bt) : Int := m.2.2.2.2.2.2.1
def mc (m : bt) : Int := m.2.2.2.2.2.2.2.1
def j1 (m : bt) : Int := m.2.2.2.2.2.2.2.2.1
noncomputable def yO (m : bt) : Int := ((bE m.2.2.2.1 : Nat) : Int)
def rG (g : bt → Int) (l : List bt) (i : Nat) : Int := match l[i]? with | some m => g m | none => 0
def xp (ms : bV) (i : Nat) : Int := match ms[i]? with | some x => x.1 | none => 0
theorem oD (g : bt → Int) {l : List bt} {k : Nat} (hk : k < l.length) : rG g l k = g l[k] := by
 unfold rG; rw [List.getElem?_eq_getElem hk]
theorem Cu {ms : bV} {k : Nat} (hk : k < ms.length) : xp ms k = ms[k].1 := by
 unfold xp; rw [List.getElem?_eq_getElem hk]
theorem xf (g : bt → Int) {l : List bt} {k : Nat} (hk : k < l.length) (m : bt) : rG g (l.set k m) = Ji (rG g l) k (g m) := by
 funext i
 unfold rG Ji; rw [List.getElem?_set]
 by_cases e : k = i
 · subst e; rw [if_pos rfl, if_pos hk, if_pos rfl]
 · rw [if_neg e, if_neg (fun h => e h.symm)]
theorem YD (f : Nat → Int) (k : Nat) : Ji f k (f k) = f := by
 funext i
 unfold Ji
 split
 · rename_i e; rw [e]
 · rfl
theorem En (g : bt → Int) {l : List bt} {k : Nat} (hk : k < l.length) {m : bt} (h : g m = g l[k]) : rG g (l.set k m) = rG g l := by
 rw [xf g hk, h, ← oD g hk, YD]
theorem S0 {L k i a b : Nat} (hi : i < L) (fe : i ≠ k) (ha : a % L = k) (hb : b % L = k) (hab : a < b) : ∃ r, a < r ∧ r < b ∧ r % L = i := by
 have e1 := Nat.div_add_mod a L; have e2 := Nat.div_add_mod b L; have hk : k < L := by rw [← ha]; exact Nat.mod_lt _ (by omega)
 rw [ha] at e1; rw [hb] at e2; have bN : a / L < b / L := by
   by_cases g : a / L < b / L
   · exact g
   · have := Nat.mul_le_mul_left L (show b / L ≤ a / L by omega); omega
 have hle := Nat.mul_le_mul_left L (show a / L + 1 ≤ b / L by omega); rw [Nat.mul_add, Nat.mul_one] at hle
 by_cases g : k < i
 · refine ⟨L * (a / L) + i, by omega, by omega, ?_⟩; rw [Nat.mul_add_mod, Nat.mod_eq_of_lt hi]
 · refine ⟨L * (a / L + 1) + i, ?_, ?_, ?_⟩
   · rw [Nat.mul_add, Nat.mul_one]; omega
   · rw [Nat.mul_add, Nat.mul_one]; omega
   · rw [Nat.mul_add_mod, Nat.mod_eq_of_lt hi]
structure ajD (R : Nat) (A B : Int) (w : aX) : Prop where
 iG : ∀ f ∈ w.2.2.2.1, f.2.1 = true → f.2.2.2.1 = ((R : Nat) : Int) → f.2.2.2.2.2.1 = A ∧ f.2.2.2.2.2.2.1 = B
 last : ∀ m ∈ w.2.2.1, (ew m).2.1 = ((R : Nat) : Int) → (ew m).2.2.2.1 = A ∧ (ew m).2.2.2.2.1 = B
def S1 (len : Nat) (l : List bt) : Prop := ∀ k (hk : k < l.length) (q : Nat), Eu l[k] = ((q : Nat) : Int) → 1 ≤ q → (q - 1) % len = k
structure vo (R : Nat) (A B : Int) (ms : bV) (w : aX) : Prop where
 Hi : pK R ((w.2.2.2.2.2.1.length : Nat) : Int) ms w
 tok : ajD R A B w
 res : S1 ms.length w.2.2.1
 Cg : E0 ms.length ((w.2.2.2.2.2.1.length : Nat) : Int) A B (xp ms) (rG Eu w.2.2.1) (rG mc w.2.2.1) (rG j1 w.2.2.1) (rG yO w.2.2.1)
theorem L9 {len k : Nat} {l : List bt} (h : S1 len l) {m : bt} (hm : ∀ q : Nat, Eu m = ((q : Nat) : Int) → 1 ≤ q → (q - 1) % len = k) : S1 len (l.set k m) := by
 intro i hi q e h1; rw [List.getElem_set] at e; rw [List.length_set] at hi
 split at e
 · rename_i g; subst g; exact hm q e h1
 · exact h i hi q e h1
theorem vo.gS {R : Nat} {A B : Int} {ms : bV} {w : aX} (h : vo R A B ms w) {k : Nat} (hk : k < w.2.2.1.length) (m : bt) (h1 : Eu m = Eu w.2.2.1[k]) (h2 : mc m = mc w.2.2.1[k]) (h3 : j1 m = j1 w.2.2.1[k]) (h4 : yO w.2.2.1[k] ≤ yO m) (h5 : ew m = ew w.2.2.1[k]) (hR : pK R ((w.2.2.2.2.2.1.length : Nat) : Int) ms (nt w k m)) : vo R A B ms (nt w k m) := by
 refine { Hi := hR, tok := ⟨h.tok.iG, fun x hx => ?_⟩, res := L9 h.res fun q e h6 => ?_, Cg := ?_ }
 · have hx : x ∈ w.2.2.1.set k m := hx; rcases List.mem_or_eq_of_mem_set hx with hx | hx
   · exact h.tok.last x hx
   · rw [hx, h5]; exact h.tok.last _ (List.getElem_mem hk)
 · exact h.res k hk q (h1 ▸ e) h6
 · show E0 ms.length ((w.2.2.2.2.2.1.length : Nat) : Int) A B (xp ms) (rG Eu (w.2.2.1.set k m)) (rG mc (w.2.2.1.set k m)) (rG j1 (w.2.2.1.set k m)) (rG yO (w.2.2.1.set k m)); rw [En Eu hk h1, En mc hk h2, En j1 hk h3, xf yO hk]; refine h.Cg.grow fun i _ => ?_
   unfold Ji
   split
   · rename_i e; rw [e, oD yO hk]; exact h4
   · exact Int.le_refl _
theorem vo.my {R : Nat} {A B : Int} {ms : bV} {w : aX} (h : vo R A B ms w) (l : List la) (h1 : ∀ f ∈ l, f.2.1 = true → f.2.2.2.1 = ((R : Nat) : Int) → f.2.2.2.2.2.1 = A ∧ f.2.2.2.2.2.2.1 = B) (hR : pK R ((w.2.2.2.2.2.1.length : Nat) : Int) ms (fG w l)) : vo R A B ms (fG w l) :=
 { Hi := hR, tok := ⟨h1, h.tok.last⟩, res := h.res, Cg := h.Cg }
theorem Ma {ms : List bt} {id : Int} {l : aG} {f : la} (h : f ∈ cB ms id l) : f.2.1 = false := by
 obtain ⟨m, _, x, _, _, rfl⟩ := td h; rfl
theorem QU {n R : Nat} {A B c : Int} {ms : bV} {w w' : aX} {f : la} (hW : cW n c ms w) (h : vo R A B ms w) (hN : Be R ((w.2.2.2.2.2.1.length : Nat) : Int) ms f) (hf : I9 f) (hft : f.2.1 = true → f.2.2.2.1 = ((R : Nat) : Int) → f.2.2.2.2.2.1 = A ∧ f.2.2.2.2.2.2.1 = B) (hc : Came w f w') : ∃ (R' : Nat) (A' B' : Int), vo R' A' B' ms w' := by
 have hR := h.Hi
 cases hc with
 | no => exact ⟨R, A, B, h⟩
 | Hf k hk pM ht =>
   have hx := hf.item ht; have hm := (hW.ld _ (List.getElem_mem hk)).1; have hi := (bj _ hm.items).1; have Of := (bj _ (yK hm.items hx)).1; have ha : bE (w.2.2.1[k]).2.2.2.1 ≤ bE (lu (w.2.2.1[k]).2.2.2.1 (f.2.2.2.2.2.2.2.2.1, f.2.2.2.2.2.2.2.2.2.1, f.2.2.2.2.2.2.2.2.2.2.1, f.2.2.2.2.2.2.2.2.2.2.2.1, ())) := Ad (by omega) (by omega) fun r hr => ⟨r, xa hr, rfl⟩
   rw [tf hm hx]; refine ⟨R, A, B, h.gS hk _ rfl rfl rfl ?_ rfl (hR.Ah hk (Bg (hR.gS k hk) (hN.item ht)))⟩; show ((bE (w.2.2.1[k]).2.2.2.1 : Nat) : Int) ≤ ((bE (lu (w.2.2.1[k]).2.2.2.1 (f.2.2.2.2.2.2.2.2.1, f.2.2.2.2.2.2.2.2.2.1, f.2.2.2.2.2.2.2.2.2.2.1, f.2.2.2.2.2.2.2.2.2.2.2.1, ())) : Nat) : Int); omega
 | held k hk pM ht m' said j nx hT hr H =>
   have kQ : k < ms.length := by rw [← hW.len]; exact hk
   have hm := (hW.ld _ (List.getElem_mem hk)).1; have hq := Ek hW hR hN ht hk pM rfl H hr rfl; have hn := yN H hT; obtain ⟨r1, r2, r3, r4⟩ := xd hW hR hN ht hk pM hr; obtain ⟨a1, a2⟩ := hft ht r3; have hs : (Gg w k f m' said nx).2.2.2.2.2.1 = w.2.2.2.2.2.1 ++ lE f said := rfl; have hl : (Gg w k f m' said nx).2.2.2.2.2.1.length = w.2.2.2.2.2.1.length + j := by rw [hs, hn, List.length_append, eU]
   have hi := (bj _ hm.items).1; have Of := (bj _ H.nq.items).1; have hmo : bE (w.2.2.1[k]).2.2.2.1 ≤ bE m'.2.2.2.1 := Ad (by omega) (by omega) fun r hr => ⟨r, by rw [H.items]; exact wI _ hr, rfl⟩
   obtain ⟨k1, k2⟩ := H.marks; have k1 : nx.2.2.2.1 = wF (f.2.2.2.2.1 + ((j : Nat) : Int)) (if f.2.2.2.2.2.1 = f.2.2.2.2.1 ∧ f.2.2.2.2.2.2.1 = 0 then f.2.2.2.2.1 + ((j : Nat) : Int) else f.2.2.2.2.2.1) f.2.2.2.2.2.2.1 (w.2.2.1[k]).1 ((bE m'.2.2.2.1 : Nat) : Int) := k1; have k2 : nx.2.2.2.2.1 = wG (f.2.2.2.2.1 + ((j : Nat) : Int)) (if f.2.2.2.2.2.1 = f.2.2.2.2.1 ∧ f.2.2.2.2.2.2.1 = 0 then f.2.2.2.2.1 + ((j : Nat) : Int) else f.2.2.2.2.2.1) f.2.2.2.2.2.2.1 (w.2.2.1[k]).1 ((bE m'.2.2.2.1 : Nat) : Int) := k2; have YC : xp ms k = (w.2.2.1[k]).1 := by rw [Cu kQ, hW.ids k hk kQ]
   rw [a1, a2, r4, ← YC] at k1 k2; have Q5 := H.line; have Q5 : j1 m' = j1 w.2.2.1[k] ∨ (j1 m' ≤ mc w.2.2.1[k] ∧ j1 m' ≤ f.2.2.2.2.2.1 ∧ j1 m' ≤ yO m') := Q5; rw [a1] at Q5; have hqm : Eu m' = ((R : Nat) : Int) := by
     have : Eu m' = f.2.2.2.1 := H.round.1; rw [this, r3]
   have hsm : mc m' = A := by
     have : mc m' = f.2.2.2.2.2.1 := H.round.2.1; rw [this, a1]
   have hlen := hW.len; have mem := hW.ring.2.2; refine ⟨R + 1, nx.2.2.2.1, nx.2.2.2.2.1, { Hi := by rw [hl, Int.natCast_add]; exact hq, tok := ⟨fun g hg Ro hgr => ?_, fun x hx hxr => ?_⟩, res := ?_, Cg := ?_ }⟩
   · have hg : g ∈ (w.2.2.2.1 ++ cB (w.2.2.1.set k m') f.1 said) ++ [ee (gO w.1 w.2.1 f.1) nx] := hg; rcases List.mem_append.1 hg with hg | hg
     · rcases List.mem_append.1 hg with hg | hg
       · obtain ⟨r, _, g2, g3, _⟩ := (hR.iG g hg).tok Ro; omega
       · rw [Ma hg] at Ro; cases Ro
     · rw [List.mem_singleton] at hg; subst hg; exact ⟨rfl, rfl⟩
   · have hx : x ∈ w.2.2.1.set k m' := hx; rcases List.mem_or_eq_of_mem_set hx with hx | hx
     · obtain ⟨i, hi, rfl⟩ := List.mem_iff_getElem.1 hx; obtain ⟨q, q1, q2, _, q4⟩ := (hR.gS i hi).last; rcases q4 with q4 | ⟨_, _, g3, _⟩
       · have := q4.2.1; omega
       · omega
     · rw [hx, show ew m' = nx from H.last]; exact ⟨rfl, rfl⟩
   · show S1 ms.length (w.2.2.1.set k m'); refine L9 h.res fun q e _ => ?_
     rw [hqm] at e; have : R = q := by omega
     rw [← this]; exact r2
   · rw [hl, Int.natCast_add]; show E0 ms.length _ _ _ (xp ms) (rG Eu (w.2.2.1.set k m')) (rG mc (w.2.2.1.set k m')) (rG j1 (w.2.2.1.set k m')) (rG yO (w.2.2.1.set k m')); rw [xf Eu hk, xf mc hk, xf j1 hk, xf yO hk, hqm, hsm]; refine h.Cg.hold kQ (fun i i' h1 h2 e => Ct mem h1 h2 (by rw [← Cu h1, ← Cu h2, e])) ?_ (fun i hi fe h1 => ?_) (fun i hi => ?_) r1 (by omega) ?_ ?_ rfl k1 k2
     · rw [Cu kQ]; have := (mem k kQ kQ).1.1; omega
     · have Hv : i < w.2.2.1.length := by omega
       rw [oD Eu hk] at h1 ⊢; rw [oD Eu Hv]; obtain ⟨q, q1, q2, q3, _⟩ := (hR.gS k hk).last; have q1 : Eu w.2.2.1[k] = ((q : Nat) : Int) := q1; have e3 := h.res k hk q q1 (by omega); obtain ⟨r, b1, b2, b3⟩ := S0 hi fe e3 r2 (by omega); obtain ⟨p, p1, p2, p3, _⟩ := (hR.gS i Hv).last; have p1 : Eu w.2.2.1[i] = ((p : Nat) : Int) := p1; have := p3 (r + 1) (by omega) (by omega) (by rw [Nat.add_sub_cancel]; exact b3); omega
     · have Hv : i < w.2.2.1.length := by omega
       rw [oD Eu Hv]; obtain ⟨q, q1, q2, _⟩ := (hR.gS i Hv).last; have q1 : Eu w.2.2.1[i] = ((q : Nat) : Int) := q1; omega
     · rw [oD yO hk]; show ((bE (w.2.2.1[k]).2.2.2.1 : Nat) : Int) ≤ ((bE m'.2.2.2.1 : Nat) : Int); omega
     · rw [oD j1 hk, oD mc hk]; exact Q5
theorem Hj (m : bt) (v : Int) : Eu (eP m v) = Eu m ∧ mc (eP m v) = mc m ∧ j1 (eP m v) = j1 m ∧ yO m ≤ yO (eP m v) ∧ ew (eP m v) = ew m := ⟨rfl, rfl, rfl, Int.le_refl _, rfl⟩
theorem QV {n : Nat} {c : Int} {ms : bV} {w w' : aX} {e : lF} (hW : cW n c ms w) (h : ∃ (R : Nat) (A B : Int), vo R A B ms w) (hs : Step w e w') : ∃ (R : Nat) (A B : Int), vo R A B ms w' := by
 obtain ⟨R, A, B, h⟩ := h; have hR := h.Hi
 cases hs with
 | same => exact ⟨R, A, B, h⟩
 | SQ k hk pM h1 => exact ⟨R, A, B, h.gS hk _ rfl rfl rfl (Int.le_refl _) rfl (hR.Ah hk ((hR.gS k hk).same rfl rfl rfl))⟩
 | SW k hk kQ j hj hw =>
   have h4 := hR.Ah hk (Em (hR.gS k hk) ((w.2.2.1[k]).2.2.2.2.2.2.2.2.2.1 + ((j : Nat) : Int))); have h5 : vo R A B ms (nt w k (eP w.2.2.1[k] ((w.2.2.1[k]).2.2.2.2.2.2.2.2.2.1 + ((j : Nat) : Int)))) := by
     obtain ⟨g1, g2, g3, g4, g5⟩ := Hj w.2.2.1[k] ((w.2.2.1[k]).2.2.2.2.2.2.2.2.2.1 + ((j : Nat) : Int)); exact h.gS hk _ g1 g2 g3 g4 g5 h4
   exact ⟨R, A, B, { Hi := { iG := h4.iG, gS := h4.gS, said := h4.said }, tok := ⟨h5.tok.iG, h5.tok.last⟩, res := h5.res, Cg := h5.Cg }⟩
 | again k hk hb =>
   refine ⟨R, A, B, h.my _ (fun f hf h1 h2 => ?_) (Bf hW hR hk hb)⟩; rcases List.mem_append.1 hf with hf | hf
   · rcases List.mem_append.1 hf with hf | hf
     · exact h.tok.iG f hf h1 h2
     · rw [List.mem_singleton] at hf; subst hf; exact h.tok.last _ (List.getElem_mem hk) h2
   · rw [Ma hf] at h1; cases h1
 | dup j hj =>
   refine ⟨R, A, B, h.my _ (fun f hf => ?_) (hR.my fun f hf => ?_)⟩
   · rcases List.mem_append.1 hf with hf | hf
     · exact h.tok.iG f hf
     · rw [List.mem_singleton] at hf; subst hf; exact h.tok.iG _ (List.getElem_mem hj)
   · rcases List.mem_append.1 hf with hf | hf
     · exact hR.iG f hf
     · rw [List.mem_singleton] at hf; subst hf; exact hR.iG _ (List.getElem_mem hj)
 | drop j hj =>
   refine ⟨R, A, B, h.my _ (fun f hf => ?_) (hR.my fun f hf => ?_)⟩
   · rcases List.mem_append.1 hf with hf | hf
     · exact h.tok.iG f (List.mem_of_mem_take hf)
     · exact h.tok.iG f (List.mem_of_mem_drop hf)
   · rcases List.mem_append.1 hf with hf | hf
     · exact hR.iG f (List.mem_of_mem_take hf)
     · exact hR.iG f (List.mem_of_mem_drop hf)
 | SX j hj w' hc =>
   have NT := hW.vn; have AR : cW n c ms (fG w (List.take j w.2.2.2.1 ++ List.drop (j + 1) w.2.2.2.1)) := hW.my (fun f hf => by
     rcases List.mem_append.1 hf with hf | hf
     · exact hW.iG f (List.mem_of_mem_take hf)
     · exact hW.iG f (List.mem_of_mem_drop hf)) (by rw [List.length_append, List.length_take, List.length_drop]; omega)
   have h1 : vo R A B ms (fG w (List.take j w.2.2.2.1 ++ List.drop (j + 1) w.2.2.2.1)) := h.my _ (fun f hf => by
     rcases List.mem_append.1 hf with hf | hf
     · exact h.tok.iG f (List.mem_of_mem_take hf)
     · exact h.tok.iG f (List.mem_of_mem_drop hf)) (hR.my fun f hf => by
     rcases List.mem_append.1 hf with hf | hf
     · exact hR.iG f (List.mem_of_mem_take hf)
     · exact hR.iG f (List.mem_of_mem_drop hf))
   exact QU AR h1 (hR.iG _ (List.getElem_mem hj)) (hW.iG _ (List.getElem_mem hj)) (h.tok.iG _ (List.getElem_mem hj)) hc
theorem S2 {c : Int} {ms : bV} (hr : lk c ms) : ∃ (R : Nat) (A B : Int), vo R A B ms (cr c ms (ms[0]'hr.2.1.1).1) := by
 have hf : ∀ (g : bt → Int), (∀ id, g (dM c ms id) = 0) → rG g (ms.map fun m => dM c ms m.1) = fun _ => 0 := fun g hg => by
   funext i
   unfold rG; rw [List.getElem?_map]
   cases ms[i]? with
   | none => rfl
   | some x => exact hg x.1
 have ha : bE [] = 0 := by
   have := (rC [] (by decide)).2.2.1; exact Nat.le_zero.1 this
 refine ⟨1, 0, 0, { Hi := B5 hr, tok := ⟨fun f hf _ _ => ?_, fun m hm e => ?_⟩, res := fun k hk q e h1 => ?_, Cg := ?_ }⟩
 · have hf : f ∈ [ee (ms[0]'hr.2.1.1).1 (th c)] := hf; rw [List.mem_singleton] at hf; subst hf; exact ⟨rfl, rfl⟩
 · have hm : m ∈ ms.map fun m => dM c ms m.1 := hm
   obtain ⟨x, _, rfl⟩ := List.mem_map.1 hm; exact ⟨rfl, rfl⟩
 · have hk : k < (ms.map fun m => dM c ms m.1).length := hk; have e : Eu (ms.map fun m => dM c ms m.1)[k] = ((q : Nat) : Int) := e; rw [List.getElem_map] at e; have e : (0 : Int) = ((q : Nat) : Int) := e; omega
 · show E0 ms.length 0 0 0 (xp ms) (rG Eu (ms.map fun m => dM c ms m.1)) (rG mc (ms.map fun m => dM c ms m.1)) (rG j1 (ms.map fun m => dM c ms m.1)) (rG yO (ms.map fun m => dM c ms m.1)); rw [hf Eu fun _ => rfl, hf mc fun _ => rfl, hf j1 fun _ => rfl, hf yO fun _ => by show ((bE [] : Nat) : Int) = 0; rw [ha]; rfl]; exact { cap := ⟨Int.le_refl _, Int.le_refl _⟩, zero := fun _ => rfl, pos := fun _ _ => Int.le_refl _, top := fun _ _ => Int.le_refl _, vis := fun _ _ => .inl ⟨rfl, rfl⟩, one := fun _ _ _ => .inl (Int.le_refl _), two := fun _ _ _ _ _ _ => .inl (Int.le_refl _), line := fun _ _ _ _ => Int.le_refl _ }
end Go.TM
set_option linter.unusedSimpArgs false
set_option linter.unusedVariables false
namespace Go.TM
open Go
def yP (said : aG) (l : aG) : Prop := ∀ x ∈ l, x ∈ said
def iD (said : aG) (m : bt) (l : aG) : Prop := ∃ n : Nat, m.2.2.2.2.2.2.2.2.2.1 = ((n : Nat) : Int) ∧ n ≤ said.length ∧ l = said.take n ∧ ∀ x ∈ l, x.2.2.1 = 2 → x.1 ≤ m.2.2.2.2.2.2.2.2.1
structure Eo (w : aX) : Prop where
 items : ∀ m ∈ w.2.2.1, yP w.2.2.2.2.2.1 m.2.2.2.1
 iG : ∀ f ∈ w.2.2.2.1, f.2.1 = false → (f.2.2.2.2.2.2.2.2.1, f.2.2.2.2.2.2.2.2.2.1, f.2.2.2.2.2.2.2.2.2.2.1, f.2.2.2.2.2.2.2.2.2.2.2.1, ()) ∈ w.2.2.2.2.2.1
 heard : ∀ k (hk : k < w.2.2.1.length) (h2 : k < w.2.2.2.2.1.length), iD w.2.2.2.2.2.1 w.2.2.1[k] (w.2.2.2.2.1[k]).1
theorem yP.grow {s t l : aG} (h : yP s l) : yP (s ++ t) l := fun x hx => List.mem_append_left _ (h x hx)
theorem iD.grow {s t l : aG} {m m' : bt} (h : iD s m l) (h1 : m'.2.2.2.2.2.2.2.2.2.1 = m.2.2.2.2.2.2.2.2.2.1) (h2 : m.2.2.2.2.2.2.2.2.1 ≤ m'.2.2.2.2.2.2.2.2.1) : iD (s ++ t) m' l := by
 obtain ⟨n, a, b, e, g⟩ := h; exact ⟨n, h1.trans a, by rw [List.length_append]; omega, by rw [e, List.take_append_of_le_length b], fun x hx hl => Int.le_trans (g x hx hl) h2⟩
theorem iD.same {s l : aG} {m m' : bt} (h : iD s m l) (h1 : m'.2.2.2.2.2.2.2.2.2.1 = m.2.2.2.2.2.2.2.2.2.1) (h2 : m'.2.2.2.2.2.2.2.2.1 = m.2.2.2.2.2.2.2.2.1) : iD s m' l := by
 obtain ⟨n, a, b, e, g⟩ := h; exact ⟨n, h1.trans a, b, e, fun x hx hl => by rw [h2]; exact g x hx hl⟩
theorem xg {s : aG} {l : List bt} (k : Nat) (m : bt) (h : ∀ m ∈ l, yP s m.2.2.2.1) (hm : yP s m.2.2.2.1) : ∀ x ∈ l.set k m, yP s x.2.2.2.1 := fun x hx => by
 rcases List.mem_or_eq_of_mem_set hx with hx | rfl
 · exact h x hx
 · exact hm
theorem Bj {s : aG} {l : List bt} {hd : NP} {k : Nat} {m : bt} (h : ∀ i (hi : i < l.length) (h2 : i < hd.length), iD s l[i] (hd[i]).1) (hm : ∀ (h2 : k < hd.length), iD s m (hd[k]).1) : ∀ i (hi : i < (l.set k m).length) (h2 : i < hd.length), iD s (l.set k m)[i] (hd[i]).1 := fun i hi h2 => by
 rw [List.getElem_set]; rw [List.length_set] at hi
 split
 · rename_i e; subst e; exact hm h2
 · exact h i hi h2
theorem Gj {s : aG} {ms : List bt} {id : Int} {l : aG} (h : yP s l) : ∀ f ∈ cB ms id l, (f.2.2.2.2.2.2.2.2.1, f.2.2.2.2.2.2.2.2.2.1, f.2.2.2.2.2.2.2.2.2.2.1, f.2.2.2.2.2.2.2.2.2.2.2.1, ()) ∈ s := fun f hf => by
 obtain ⟨m, _, x, hx, _, rfl⟩ := td hf; exact h x hx
theorem Hk {s : aG} (h : ∀ i (hi : i < s.length), (s[i]).1 = ((i + 1 : Nat) : Int)) {x : cu} (hx : x ∈ s) {n : Nat} (e : x.1 = ((n + 1 : Nat) : Int)) : s[n]? = some x := by
 obtain ⟨i, hi, rfl⟩ := List.mem_iff_getElem.1 hx; have := h i hi; have : i = n := by omega
 subst this; exact List.getElem?_eq_getElem hi
theorem S3 {s xs : aG} (h : ∀ i (hi : i < s.length), (s[i]).1 = ((i + 1 : Nat) : Int)) (hs : yP s xs) (hl : xs.length ≤ 1048576) : bE xs ≤ s.length := by
 obtain ⟨_, a1, _⟩ := (rC xs hl).2.2
 by_cases g : bE xs ≤ s.length
 · exact g
 · have := a1 s.length (by omega); obtain ⟨r, hr⟩ := Option.isSome_iff_exists.1 this; obtain ⟨m1, m2⟩ := ru hr; have := Hk h (hs r m1) m2; rw [List.getElem?_eq_none (Nat.le_refl _)] at this
   cases this
theorem Hl {s xs : aG} (h : ∀ i (hi : i < s.length), (s[i]).1 = ((i + 1 : Nat) : Int)) (hs : yP s xs) (hl : xs.length ≤ 1048576) {n : Nat} (hn : n < bE xs) : s[n]? = some (qi xs ((n + 1 : Nat) : Int)) := by
 obtain ⟨_, a1, _⟩ := (rC xs hl).2.2; obtain ⟨r, hr⟩ := Option.isSome_iff_exists.1 (a1 n hn); obtain ⟨m1, m2⟩ := ru hr; have e : qi xs ((n + 1 : Nat) : Int) = r := by unfold qi; rw [hr]; rfl
 rw [e]; exact Hk h (hs r m1) m2
theorem B7 {s xs : aG} (h : ∀ i (hi : i < s.length), (s[i]).1 = ((i + 1 : Nat) : Int)) (hs : yP s xs) (hl : xs.length ≤ 1048576) (n : Nat) : (j : Nat) → n + j ≤ bE xs → s.take n ++ ez xs ((n : Nat) : Int) j = s.take (n + j)
 | 0, _ => by rw [show ez xs ((n : Nat) : Int) 0 = [] from rfl, List.append_nil]; rfl
 | j + 1, hj => by
   have ih := B7 h hs hl n j (by omega); have e : ez xs ((n : Nat) : Int) (j + 1) = ez xs ((n : Nat) : Int) j ++ [qi xs (((n : Nat) : Int) + ((j + 1 : Nat) : Int))] := by
     unfold ez; rw [List.range_succ, List.map_append]; rfl
   have h1 := Hl h hs hl (n := n + j) (by omega); rw [e, ← List.append_assoc, ih, show n + (j + 1) = n + j + 1 by omega, List.take_add_one, h1]; show _ = _ ++ [_]; rw [show ((n : Nat) : Int) + ((j + 1 : Nat) : Int) = ((n + j + 1 : Nat) : Int) by omega]
theorem N4 {n R : Nat} {A B c : Int} {ms : bV} {w w' : aX} {f : la} (hW : cW n c ms w) (hA : vo R A B ms w) (h : Eo w) (hN : Be R ((w.2.2.2.2.2.1.length : Nat) : Int) ms f) (hf : I9 f) (hfi : f.2.1 = false → (f.2.2.2.2.2.2.2.2.1, f.2.2.2.2.2.2.2.2.2.1, f.2.2.2.2.2.2.2.2.2.2.1, f.2.2.2.2.2.2.2.2.2.2.2.1, ()) ∈ w.2.2.2.2.2.1) (hc : Came w f w') : Eo w' := by
 have hR := hA.Hi
 cases hc with
 | no => exact h
 | Hf k hk pM ht =>
   have hx := hf.item ht; have hm := (hW.ld _ (List.getElem_mem hk)).1; rw [tf hm hx]; exact
   { items := xg k _ h.items fun x hx => by
       have hx : x ∈ lu (w.2.2.1[k]).2.2.2.1 (f.2.2.2.2.2.2.2.2.1, f.2.2.2.2.2.2.2.2.2.1, f.2.2.2.2.2.2.2.2.2.2.1, f.2.2.2.2.2.2.2.2.2.2.2.1, ()) := hx; rcases s9 hx with rfl | hx
       · exact hfi ht
       · exact h.items _ (List.getElem_mem hk) x hx
     iG := h.iG
     heard := Bj h.heard fun h2 => (h.heard k hk h2).same rfl rfl }
 | held k hk pM ht m' said j nx hT hr H =>
   have hm := (hW.ld _ (List.getElem_mem hk)).1; have hn := yN H hT; obtain ⟨r1, r2, r3, r4⟩ := xd hW hR hN ht hk pM hr; have sJ : yP (w.2.2.2.2.2.1 ++ lE f said) (cK f.2.2.2.2.1 (w.2.2.1[k]).1 (w.2.2.1[k]).2.2.2.2.1 (w.2.2.1[k]).2.2.2.2.2.1 j) := fun x hx => by rw [hn]; exact List.mem_append_right _ hx
   have hold := (h.items _ (List.getElem_mem hk)).grow (t := lE f said); have hsd : yP (w.2.2.2.2.2.1 ++ lE f said) said := fun x hx => by
     have hx := hx; rw [H.said] at hx; rcases List.mem_append.1 hx with hx | hx
     · exact hold x (Ec hx)
     · exact sJ x hx
   have h1 : ∀ m ∈ w.2.2.1, yP (w.2.2.2.2.2.1 ++ lE f said) m.2.2.2.1 := fun m hm => (h.items m hm).grow
   have h2 : ∀ i (hi : i < w.2.2.1.length) (h2 : i < w.2.2.2.2.1.length), iD (w.2.2.2.2.2.1 ++ lE f said) w.2.2.1[i] (w.2.2.2.2.1[i]).1 := fun i hi h2 => (h.heard i hi h2).grow rfl (Int.le_refl _)
   exact
   { items := xg k m' h1 fun x hx => by
       have hx := hx; rw [H.items] at hx; rcases yL _ hx with hx | hx
       · exact sJ x hx
       · exact hold x hx
     iG := fun g hg Ro => by
       have hg : g ∈ (w.2.2.2.1 ++ cB (w.2.2.1.set k m') f.1 said) ++ [ee (gO w.1 w.2.1 f.1) nx] := hg; show _ ∈ w.2.2.2.2.2.1 ++ lE f said; rcases List.mem_append.1 hg with hg | hg
       · rcases List.mem_append.1 hg with hg | hg
         · exact List.mem_append_left _ (h.iG g hg Ro)
         · exact Gj hsd g hg
       · rw [List.mem_singleton] at hg; subst hg; cases Ro
     heard := Bj h2 fun h2 => (h.heard k hk h2).grow H.round.2.2.2 H.round.2.2.1 }
theorem N5 {n : Nat} {c : Int} {ms : bV} {w w' : aX} {e : lF} {fc : List lF} (hW : cW n c ms w) (hT : Jg fc ms w) (hA : ∃ (R : Nat) (A B : Int), vo R A B ms w) (h : Eo w) (hs : Step w e w') : Eo w' := by
 obtain ⟨R, A, B, hA⟩ := hA
 cases hs with
 | same => exact h
 | SQ k hk pM h1 =>
   exact { items := xg k _ h.items fun x hx => h.items _ (List.getElem_mem hk) x hx, iG := h.iG, heard := Bj h.heard fun h2 => (h.heard k hk h2).same rfl rfl }
 | SW k hk kQ j hj hw =>
   have hm := (hW.ld _ (List.getElem_mem hk)).1; have hi := (bj _ hm.items).1; have hsm := h.items _ (List.getElem_mem hk); obtain ⟨p, p1, p2, p3, p4⟩ := h.heard k hk kQ; generalize hm0 : w.2.2.1[k] = m0 at *; rw [p1] at hj hw ⊢; have hj : p + j ≤ bE m0.2.2.2.1 := by omega
   have anL := S3 hT.num hsm (by omega); have hl := B7 hT.num hsm (by omega) p j hj; have Cc : iD w.2.2.2.2.2.1 (eP m0 (((p : Nat) : Int) + ((j : Nat) : Int))) ((w.2.2.2.2.1[k]).1 ++ ez m0.2.2.2.1 ((p : Nat) : Int) j) := by
     refine ⟨p + j, by show ((p : Nat) : Int) + ((j : Nat) : Int) = _; omega, by omega, by rw [p3, hl], fun x hx h2 => ?_⟩; rcases List.mem_append.1 hx with hx | hx
     · exact p4 x hx h2
     · obtain ⟨i, Of, rfl⟩ := List.mem_map.1 hx; rw [List.mem_range] at Of; have := hw i Of; unfold wE at this; show _ ≤ m0.2.2.2.2.2.2.2.2.1
       by_cases g : (qi m0.2.2.2.1 (((p : Nat) : Int) + ((i + 1 : Nat) : Int))).1 ≤ m0.2.2.2.2.2.2.2.2.1
       · exact g
       · exact absurd ⟨h2, by omega⟩ this
   have h1 : ∀ x ∈ w.2.2.1.set k (eP m0 (((p : Nat) : Int) + ((j : Nat) : Int))), yP w.2.2.2.2.2.1 x.2.2.2.1 := xg k _ h.items hsm; exact
   { items := h1
     iG := h.iG
     heard := fun i hi h2 => by
       have hi : i < (w.2.2.1.set k (eP m0 (((p : Nat) : Int) + ((j : Nat) : Int)))).length := hi; have h2 : i < (w.2.2.2.2.1.set k ((w.2.2.2.2.1[k]).1 ++ ez m0.2.2.2.1 ((p : Nat) : Int) j, ())).length := h2; show iD w.2.2.2.2.2.1 (w.2.2.1.set k (eP m0 (((p : Nat) : Int) + ((j : Nat) : Int))))[i] ((w.2.2.2.2.1.set k ((w.2.2.2.2.1[k]).1 ++ ez m0.2.2.2.1 ((p : Nat) : Int) j, ()))[i]).1; rw [List.getElem_set, List.getElem_set]; rw [List.length_set] at hi h2
       by_cases g : k = i
       · rw [if_pos g, if_pos g]; exact Cc
       · rw [if_neg g, if_neg g]; exact h.heard i hi h2 }
 | again k hk hb =>
   refine { items := h.items, iG := fun f hf h1 => ?_, heard := h.heard }; rcases List.mem_append.1 hf with hf | hf
   · rcases List.mem_append.1 hf with hf | hf
     · exact h.iG f hf h1
     · rw [List.mem_singleton] at hf; subst hf; cases h1
   · exact Gj (fun x hx => h.items _ (List.getElem_mem hk) x (List.mem_filter.1 hx).1) f hf
 | dup j hj =>
   refine { items := h.items, iG := fun f hf => ?_, heard := h.heard }; rcases List.mem_append.1 hf with hf | hf
   · exact h.iG f hf
   · rw [List.mem_singleton] at hf; subst hf; exact h.iG _ (List.getElem_mem hj)
 | drop j hj =>
   refine { items := h.items, iG := fun f hf => ?_, heard := h.heard }; rcases List.mem_append.1 hf with hf | hf
   · exact h.iG f (List.mem_of_mem_take hf)
   · exact h.iG f (List.mem_of_mem_drop hf)
 | SX j hj w' hc =>
   have NT := hW.vn; have hR := hA.Hi; have K4 : ∀ f ∈ List.take j w.2.2.2.1 ++ List.drop (j + 1) w.2.2.2.1, f ∈ w.2.2.2.1 := fun f hf => by
     rcases List.mem_append.1 hf with hf | hf
     · exact List.mem_of_mem_take hf
     · exact List.mem_of_mem_drop hf
   have AR : cW n c ms (fG w (List.take j w.2.2.2.1 ++ List.drop (j + 1) w.2.2.2.1)) := hW.my (fun f hf => hW.iG f (K4 f hf)) (by rw [List.length_append, List.length_take, List.length_drop]; omega); have h1 : vo R A B ms (fG w (List.take j w.2.2.2.1 ++ List.drop (j + 1) w.2.2.2.1)) := hA.my _ (fun f hf => hA.tok.iG f (K4 f hf)) (hR.my fun f hf => hR.iG f (K4 f hf)); exact N4 AR h1 { items := h.items, iG := fun f hf => h.iG f (K4 f hf), heard := h.heard } (hR.iG _ (List.getElem_mem hj)) (hW.iG _ (List.getElem_mem hj)) (h.iG _ (List.getElem_mem hj)) hc
theorem QW {c : Int} {ms : bV} (hr : lk c ms) : Eo (cr c ms (ms[0]'hr.2.1.1).1) := {
 items := fun m hm => by
   have hm : m ∈ ms.map fun m => dM c ms m.1 := hm
   obtain ⟨x, _, rfl⟩ := List.mem_map.1 hm; intro y hy
   cases hy
 iG := fun f hf h1 => by
   have hf : f ∈ [ee (ms[0]'hr.2.1.1).1 (th c)] := hf; rw [List.mem_singleton] at hf; subst hf; cases h1
 heard := fun k hk h2 => by
   have hk : k < (ms.map fun m => dM c ms m.1).length := hk; have h2 : k < (List.replicate ms.length (([], ()) : aG × Unit)).length := h2; show iD [] (ms.map fun m => dM c ms m.1)[k] ((List.replicate ms.length (([], ()) : aG × Unit))[k]).1; rw [List.getElem_map, List.getElem_replicate]; exact ⟨0, rfl, Nat.le_refl _, rfl, fun x hx => by cases hx⟩ }
theorem QX {c : Int} {ms : bV} (hr : lk c ms) (fc : List lF) (hl : fc.length ≤ 89) (he : ∀ e ∈ fc, Ci ms e) :
   ∃ (w : aX) (jt : bV), m9 c ms fc = some (w.1, w.2.1, w.2.2.1, w.2.2.2.1, w.2.2.2.2.1, w.2.2.2.2.2.1, jt, true, ()) ∧ nb c ms fc = some (w.1, w.2.1, w.2.2.1, w.2.2.2.1, w.2.2.2.2.1, w.2.2.2.2.2.1, jt, true, ()) ∧ jt.length = fc.length ∧ cW fc.length c ms w ∧ Jg fc ms w ∧ (∃ (R : Nat) (A B : Int), vo R A B ms w) ∧ Eo w := by
 obtain ⟨w, jt, e1, e2, e3, hW, h⟩ := QS hr fc hl he (fun w => Jg fc ms w ∧ (∃ (R : Nat) (A B : Int), vo R A B ms w) ∧ Eo w) ⟨QT hr fc, S2 hr, QW hr⟩ fun n w w' e _ h1 h2 _ h4 h5 => ⟨N3 h1 h2 h4.1 h5, QV h2 h4.2.1 h5, N5 h2 h4.1 h4.2.1 h4.2.2 h5⟩
 exact ⟨w, jt, e1, e2, e3, hW, h⟩
end Go.TM
set_option linter.unusedSimpArgs false
set_option linter.unusedVariables false
namespace Go.TM
open Go
theorem Ep (l : aG) (h : l.length ≤ 1048576) : kN l l = some (true, ()) := by
 have hl := bd (round := fo) (e := .inl ()) l.length (fun k => (l, l, ((k : Nat) : Int), ())) (by
     simp only [fo, nc, az, cond_false]) (fun k hk => by
     simp only [fo, nc, aw hk, ak, cond_true, cond_false, au, List.getElem?_eq_getElem hk, Option.bind_some, decide_true, l7, Bool.and_self, Bool.not_true, aC (show k < 4611686018427387904 by omega)])
 have hl : aA fo (l, l, (0 : Int), ()) = _ := hl; unfold kN; simp only [decide_true, Bool.not_true, cond_false, hl, gG]
theorem E1 (l : bV) (h : l.length ≤ 1048576) : oz l l = some (true, ()) := by
 have hl := bd (round := gr) (e := .inl ()) l.length (fun k => (l, l, ((k : Nat) : Int), ())) (by
     simp only [gr, nW, az, cond_false]) (fun k hk => by
     simp only [gr, nW, aw hk, ak, cond_true, cond_false, au, List.getElem?_eq_getElem hk, Option.bind_some, decide_true, Bool.not_true, aC (show k < 4611686018427387904 by omega)])
 have hl : aA gr (l, l, (0 : Int), ()) = _ := hl; unfold oz; simp only [decide_true, Bool.not_true, cond_false, hl, gG]
theorem Aj (l : aG) (h : l.length ≤ 1048576) : fV l l = some (true, ()) := by
 have hl := bd (round := cm) (e := .inl ()) l.length (fun k => (l, l, ((List.length l : Nat) : Int), ((k : Nat) : Int), ())) (by
     simp only [cm, gR, az, cond_false]) (fun k hk => by
     simp only [cm, gR, aw hk, ak, cond_true, cond_false, au, List.getElem?_eq_getElem hk, Option.bind_some, decide_true, l7, Bool.and_self, Bool.not_true, aC (show k < 4611686018427387904 by omega)])
 have hl : aA cm (l, l, ((List.length l : Nat) : Int), (0 : Int), ()) = _ := hl; unfold fV; simp only [decide_true, Bool.not_true, cond_false, hl, gG]
theorem N6 (s : aG) (hs : s.length ≤ 1048576) (n m : Nat) (hn : n ≤ s.length) (hm : m ≤ s.length) : sg (s.take n) (s.take m) = some (true, ()) := by
 have l1 : (s.take n).length = n := by rw [List.length_take]; omega
 have l2 : (s.take m).length = m := by rw [List.length_take]; omega
 unfold sg; rw [l1, l2]
 by_cases g : m < n
 · simp only [if_pos (show ((m : Nat) : Int) < ((n : Nat) : Int) by omega), ak, cond_true, au, List.drop_zero, af (show ((m : Nat) : Int) ≤ ((n : Nat) : Int) by omega), af (Int.le_refl ((m : Nat) : Int)), List.take_take, Nat.min_eq_left (Nat.le_of_lt g), Nat.min_self, Aj (s.take m) (by omega), Option.bind_some]
 · simp only [if_neg (show ¬ ((m : Nat) : Int) < ((n : Nat) : Int) by omega), ak, cond_true, au, List.drop_zero, af (show ((n : Nat) : Int) ≤ ((m : Nat) : Int) by omega), af (Int.le_refl ((n : Nat) : Int)), List.take_take, Nat.min_eq_left (show n ≤ m by omega), Nat.min_self, Aj (s.take n) (by omega), Option.bind_some]
theorem Er (s : aG) (hs : s.length ≤ 1048576) (n m : Nat) (hm : m ≤ s.length) (h : n ≤ m) : gL (s.take n) (s.take m) = some (true, ()) := by
 have l1 : (s.take n).length = n := by rw [List.length_take]; omega
 have l2 : (s.take m).length = m := by rw [List.length_take]; omega
 have hl := bd (round := fu) (e := .inl ()) n (fun k => (s.take n, s.take m, ((k : Nat) : Int), ())) (by
     simp only [fu, ni, l1, az, cond_false]) (fun k hk => by
     simp only [fu, ni, l1, aw hk, ak, cond_true, cond_false, au, List.getElem?_eq_getElem (show k < (s.take n).length by omega), List.getElem?_eq_getElem (show k < (s.take m).length by omega), List.getElem_take, Option.bind_some, decide_true, l7, Bool.and_self, Bool.not_true, aC (show k < 4611686018427387904 by omega)])
 have hl : aA fu (s.take n, s.take m, (0 : Int), ()) = _ := hl; unfold gL; rw [l1, l2, ai (show ¬ ((m : Nat) : Int) < ((n : Nat) : Int) by omega), hl]; rfl
theorem Lc (s : aG) (n m : Nat) (hn : n ≤ s.length) (h : m < n) : gL (s.take n) (s.take m) = some (false, ()) := by
 have l1 : (s.take n).length = n := by rw [List.length_take]; omega
 have l2 : (s.take m).length = m := by rw [List.length_take]; omega
 unfold gL; rw [l1, l2, af (show ((m : Nat) : Int) < ((n : Nat) : Int) by omega)]; rfl
def QY (s : aG) (hd : NP) : Prop := ∀ i (hi : i < hd.length), ∃ n : Nat, n ≤ s.length ∧ (hd[i]).1 = s.take n
theorem S4 {s : aG} {hd : NP} (h : QY s hd) (hs : s.length ≤ 1048576) (hl : hd.length ≤ 5) : oA hd = some (true, ()) := by
 have l0 := bd (round := gv) (e := .inl ()) hd.length (fun k => (hd, hd, ((List.length hd : Nat) : Int), ((k : Nat) : Int), ())) (by
     simp only [gv, nY, az, cond_false]) (fun k hk => by
     have lt : (List.take k hd).length = k := by rw [List.length_take]; omega
     have l1 := bd (round := gu) (e := .inl (hd, hd, ((List.length hd : Nat) : Int), ((k : Nat) : Int), ())) k (fun j => (hd, (hd[k]).1, hd, ((List.length hd : Nat) : Int), ((k : Nat) : Int), List.take k hd, ((k : Nat) : Int), ((j : Nat) : Int), ())) (by
         simp only [gu, nX, az, cond_false]) (fun j hj => by
         obtain ⟨n, n1, n2⟩ := h k hk; obtain ⟨m, m1, m2⟩ := h j (by omega); simp only [gu, nX, aw hj, ak, cond_true, au, List.getElem?_eq_getElem (show j < (List.take k hd).length by omega), List.getElem_take, Option.bind_some, n2, m2, N6 s hs n m n1 m1, Bool.not_true, cond_false, aC (show j < 4611686018427387904 by omega)])
     have l1 : aA gu (hd, (hd[k]).1, hd, ((List.length hd : Nat) : Int), ((k : Nat) : Int), List.take k hd, ((k : Nat) : Int), (0 : Int), ()) = _ := l1; simp only [gv, nY, aw hk, ak, cond_true, au, List.getElem?_eq_getElem hk, Option.bind_some, List.drop_zero, lt, af (show ((k : Nat) : Int) ≤ ((List.length hd : Nat) : Int) by omega), l1, bz, aC (show k < 4611686018427387904 by omega)])
 have l0 : aA gv (hd, hd, ((List.length hd : Nat) : Int), (0 : Int), ()) = _ := l0; unfold oA; rw [l0]; rfl
theorem S5 {s : aG} {hd : NP} (h : QY s hd) (hs : s.length ≤ 1048576) (hl : hd.length ≤ 5) : oB hd = some (true, ()) := by
 have l0 := bd (round := gz) (e := .inl ()) hd.length (fun k => (hd, ((k : Nat) : Int), ())) (by
     simp only [gz, n4, az, cond_false]) (fun k hk => by
     have l1 := bd (round := gw) (e := .inl (hd, ((k : Nat) : Int), ())) k (fun j => (hd, ((k : Nat) : Int), ((j : Nat) : Int), ())) (by
         simp only [gw, nZ, az, cond_false]) (fun j hj => by
         obtain ⟨n, n1, n2⟩ := h k hk; obtain ⟨m, m1, m2⟩ := h j (by omega); simp only [gw, nZ, aw hj, ak, cond_true, au, List.getElem?_eq_getElem hk, List.getElem?_eq_getElem (show j < hd.length by omega), Option.bind_some, n2, m2, aC (show j < 4611686018427387904 by omega)]
         by_cases g : n ≤ m
         · rw [Er s hs n m m1 g]; rfl
         · rw [Lc s n m n1 (by omega), Option.bind_some, Er s hs m n n1 (by omega)]; rfl)
     have l1 : aA gw (hd, ((k : Nat) : Int), (0 : Int), ()) = _ := l1; simp only [gz, n4, aw hk, cond_true, l1, bz, Option.bind_some, aC (show k < 4611686018427387904 by omega)])
 have l0 : aA gz (hd, (0 : Int), ()) = _ := l0; unfold oB; rw [l0]; rfl
theorem QZ (xs : aG) (x : cu) (hx : x ∈ xs) (hl : xs.length ≤ 1048576) : ∃ k : Nat, fX xs x.1 x.2.1 x.2.2.1 x.2.2.2.1 = some (((k : Nat) : Int), ()) := by
 obtain ⟨e, he, k, rfl⟩ := dV (round := dh) (x := (xs, x.1, x.2.1, x.2.2.1, x.2.2.2.1, ((List.length xs : Nat) : Int), ((0 : Nat) : Int), ())) xs.length
   (fun k y => y = (xs, x.1, x.2.1, x.2.2.1, x.2.2.2.1, ((List.length xs : Nat) : Int), ((k : Nat) : Int), ()) ∧ ∀ i (hi : i < xs.length), i < k → xs[i] ≠ x)
   (fun e => ∃ k : Nat, e = .inr (((k : Nat) : Int), ())) (by
     rintro y ⟨_, g⟩
     obtain ⟨i, hi, e⟩ := List.mem_iff_getElem.1 hx; exact absurd e (g i hi hi)) (by
     rintro k y hk ⟨rfl, g⟩
     simp only [dh, lj, aw hk, ak, cond_true, au, List.getElem?_eq_getElem hk, Option.bind_some, aC (show k < 4611686018427387904 by omega)]
     cases hb : (decide (x.1 = (xs[k]).1) && (decide (x.2.1 = (xs[k]).2.1) && (decide (x.2.2.1 = (xs[k]).2.2.1) && (j3 x.2.2.2.1 (xs[k]).2.2.2.1 && true))))
     · refine .inr ⟨_, rfl, rfl, fun i hi hik => ?_⟩
       by_cases e : i = k
       · subst e; intro h; rw [h] at hb; simp only [decide_true, l7, Bool.and_self] at hb
         cases hb
       · exact g i hi (by omega)
     · exact .inl ⟨_, rfl, k, rfl⟩) ⟨rfl, fun i _ h => by omega⟩
 have he : aA dh (xs, x.1, x.2.1, x.2.2.1, x.2.2.2.1, ((List.length xs : Nat) : Int), (0 : Int), ()) = _ := he; refine ⟨k, ?_⟩; unfold fX; rw [he]; rfl
theorem Jj (xs : aG) (x : cu) (hx : x ∈ xs) (hl : xs.length ≤ 1048576) : eE xs x.1 x.2.1 x.2.2.1 x.2.2.2.1 = some (true, ()) := by
 obtain ⟨k, e⟩ := QZ xs x hx hl; unfold eE; rw [e]; simp only [Option.bind_some, ak]
def Safe (w : aX) : Prop := ∀ i (hi : i < w.2.2.2.2.1.length), ∀ x ∈ (w.2.2.2.2.1[i]).1, x.2.2.1 = 2 → ∀ m ∈ w.2.2.1, dm m.2.2.2.1 x.1 = some x
theorem Q0 {w : aX} (h : Safe w) (hl : w.2.2.2.2.1.length ≤ 5) (hm : w.2.2.1.length ≤ 5) (YE : ∀ m ∈ w.2.2.1, m.2.2.2.1.length ≤ 1048576) (hx : ∀ i (hi : i < w.2.2.2.2.1.length), (w.2.2.2.2.1[i]).1.length ≤ 1048576) : nh w.1 w.2.1 w.2.2.1 w.2.2.2.1 w.2.2.2.2.1 w.2.2.2.2.2.1 = some (true, ()) := by
 have l0 := bd (round := ft) (e := .inl ()) w.2.2.2.2.1.length (fun i => (w.1, w.2.1, w.2.2.1, w.2.2.2.1, w.2.2.2.2.1, w.2.2.2.2.2.1, w.2.2.2.2.1, ((List.length w.2.2.2.2.1 : Nat) : Int), ((i : Nat) : Int), ())) (by
     simp only [ft, ng, az, cond_false]) (fun i hi => by
     have xh := hx i hi; have l2 := bd (round := fq) (e := .inl (w.1, w.2.1, w.2.2.1, w.2.2.2.1, w.2.2.2.2.1, w.2.2.2.2.2.1, w.2.2.2.2.1, ((List.length w.2.2.2.2.1 : Nat) : Int), ((i : Nat) : Int), ())) (w.2.2.2.2.1[i]).1.length (fun k => (w.1, w.2.1, w.2.2.1, w.2.2.2.1, w.2.2.2.2.1, w.2.2.2.2.2.1, w.2.2.2.2.1, ((List.length w.2.2.2.2.1 : Nat) : Int), ((i : Nat) : Int), (w.2.2.2.2.1[i]).1, ((List.length (w.2.2.2.2.1[i]).1 : Nat) : Int), ((k : Nat) : Int), ())) (by
         simp only [fq, nf, az, cond_false]) (fun k hk => by
         have hS := h i hi _ (List.getElem_mem hk); have l4 := bd (round := fp) (e := .inl (w.1, w.2.1, w.2.2.1, w.2.2.2.1, w.2.2.2.2.1, w.2.2.2.2.2.1, w.2.2.2.2.1, ((List.length w.2.2.2.2.1 : Nat) : Int), ((i : Nat) : Int), (w.2.2.2.2.1[i]).1, ((List.length (w.2.2.2.2.1[i]).1 : Nat) : Int), ((k : Nat) : Int), ())) w.2.2.1.length (fun j => (w.1, w.2.1, w.2.2.1, w.2.2.2.1, w.2.2.2.2.1, w.2.2.2.2.2.1, ((w.2.2.2.2.1[i]).1[k]).1, ((w.2.2.2.2.1[i]).1[k]).2.1, ((w.2.2.2.2.1[i]).1[k]).2.2.1, ((w.2.2.2.2.1[i]).1[k]).2.2.2.1, w.2.2.2.2.1, ((List.length w.2.2.2.2.1 : Nat) : Int), ((i : Nat) : Int), (w.2.2.2.2.1[i]).1, ((List.length (w.2.2.2.2.1[i]).1 : Nat) : Int), ((k : Nat) : Int), w.2.2.1, ((List.length w.2.2.1 : Nat) : Int), ((j : Nat) : Int), ())) (by
             simp only [fp, nd, az, cond_false]) (fun j hj => by
             have hmj := List.getElem_mem hj; simp only [fp, nd, aw hj, ak, cond_true, au, List.getElem?_eq_getElem hj, Option.bind_some, aC (show j < 4611686018427387904 by omega)]
             by_cases g : ((w.2.2.2.2.1[i]).1[k]).2.2.1 = 2
             · rw [af g, Jj _ _ (ru (hS g _ hmj)).1 (YE _ hmj)]; rfl
             · rw [ai g]; rfl)
         have l4 : aA fp (w.1, w.2.1, w.2.2.1, w.2.2.2.1, w.2.2.2.2.1, w.2.2.2.2.2.1, ((w.2.2.2.2.1[i]).1[k]).1, ((w.2.2.2.2.1[i]).1[k]).2.1, ((w.2.2.2.2.1[i]).1[k]).2.2.1, ((w.2.2.2.2.1[i]).1[k]).2.2.2.1, w.2.2.2.2.1, ((List.length w.2.2.2.2.1 : Nat) : Int), ((i : Nat) : Int), (w.2.2.2.2.1[i]).1, ((List.length (w.2.2.2.2.1[i]).1 : Nat) : Int), ((k : Nat) : Int), w.2.2.1, ((List.length w.2.2.1 : Nat) : Int), (0 : Int), ()) = _ := l4; simp only [fq, nf, aw hk, ak, cond_true, au, List.getElem?_eq_getElem hk, Option.bind_some, l4, bz, aC (show k < 4611686018427387904 by omega)])
     have l2 : aA fq (w.1, w.2.1, w.2.2.1, w.2.2.2.1, w.2.2.2.2.1, w.2.2.2.2.2.1, w.2.2.2.2.1, ((List.length w.2.2.2.2.1 : Nat) : Int), ((i : Nat) : Int), (w.2.2.2.2.1[i]).1, ((List.length (w.2.2.2.2.1[i]).1 : Nat) : Int), (0 : Int), ()) = _ := l2; simp only [ft, ng, aw hi, ak, cond_true, au, List.getElem?_eq_getElem hi, Option.bind_some, l2, bz, aC (show i < 4611686018427387904 by omega)])
 have l0 : aA ft (w.1, w.2.1, w.2.2.1, w.2.2.2.1, w.2.2.2.2.1, w.2.2.2.2.2.1, w.2.2.2.2.1, ((List.length w.2.2.2.2.1 : Nat) : Int), (0 : Int), ()) = _ := l0; unfold nh; rw [l0]; rfl
theorem Q1 {w : aX} (h : Safe w) (hl : w.2.2.2.2.1.length ≤ 5) (hm : w.2.2.1.length ≤ 5) (YE : ∀ m ∈ w.2.2.1, m.2.2.2.1.length ≤ 1048576) (hx : ∀ i (hi : i < w.2.2.2.2.1.length), (w.2.2.2.2.1[i]).1.length ≤ 1048576) : np w.1 w.2.1 w.2.2.1 w.2.2.2.1 w.2.2.2.2.1 w.2.2.2.2.2.1 = some (true, ()) := by
 have l0 := bd (round := fw) (e := .inl ()) w.2.2.2.2.1.length (fun i => (w.1, w.2.1, w.2.2.1, w.2.2.2.1, w.2.2.2.2.1, w.2.2.2.2.2.1, ((i : Nat) : Int), ())) (by
     simp only [fw, nm, az, cond_false]) (fun i hi => by
     have xh := hx i hi; have l2 := bd (round := fv) (e := .inl (w.1, w.2.1, w.2.2.1, w.2.2.2.1, w.2.2.2.2.1, w.2.2.2.2.2.1, ((i : Nat) : Int), ())) (w.2.2.2.2.1[i]).1.length (fun k => (w.1, w.2.1, w.2.2.1, w.2.2.2.1, w.2.2.2.2.1, w.2.2.2.2.2.1, ((i : Nat) : Int), ((k : Nat) : Int), ())) (by
         simp only [fv, nk, ak, cond_true, au, List.getElem?_eq_getElem hi, Option.bind_some, az, cond_false]) (fun k hk => by
         have hS := h i hi _ (List.getElem_mem hk); have l4 : aA cJ (w.1, w.2.1, w.2.2.1, w.2.2.2.1, w.2.2.2.2.1, w.2.2.2.2.2.1, ((i : Nat) : Int), ((k : Nat) : Int), ((w.2.2.2.2.1[i]).1[k]).1, ((w.2.2.2.2.1[i]).1[k]).2.1, ((w.2.2.2.2.1[i]).1[k]).2.2.1, ((w.2.2.2.2.1[i]).1[k]).2.2.2.1, (0 : Int), ()) = some (.inl (w.1, w.2.1, w.2.2.1, w.2.2.2.1, w.2.2.2.2.1, w.2.2.2.2.2.1, ((i : Nat) : Int), ((k : Nat) : Int), ())) := by
           by_cases g : ((w.2.2.2.2.1[i]).1[k]).2.2.1 = 2
           · exact bd (round := cJ) (e := .inl (w.1, w.2.1, w.2.2.1, w.2.2.2.1, w.2.2.2.2.1, w.2.2.2.2.2.1, ((i : Nat) : Int), ((k : Nat) : Int), ())) w.2.2.1.length (fun j => (w.1, w.2.1, w.2.2.1, w.2.2.2.1, w.2.2.2.2.1, w.2.2.2.2.2.1, ((i : Nat) : Int), ((k : Nat) : Int), ((w.2.2.2.2.1[i]).1[k]).1, ((w.2.2.2.2.1[i]).1[k]).2.1, ((w.2.2.2.2.1[i]).1[k]).2.2.1, ((w.2.2.2.2.1[i]).1[k]).2.2.2.1, ((j : Nat) : Int), ())) (by
               simp only [cJ, ed, az, cond_false]) (fun j hj => by
               have hmj := List.getElem_mem hj; simp only [cJ, ed, aw hj, ak, cond_true, au, List.getElem?_eq_getElem hj, Option.bind_some, aC (show j < 4611686018427387904 by omega), af g, oR _ _ (YE _ hmj), hS g _ hmj, ns, Bool.not_true, cond_false, decide_true, l7, Bool.and_self])
           · refine Bh ?_
             by_cases h0 : (0 : Int) < ((List.length w.2.2.1 : Nat) : Int)
             · simp only [cJ, ed, af h0, cond_true, ai g, cond_false]
             · simp only [cJ, ed, ai h0, cond_false]
         simp only [fv, nk, aw hk, ak, cond_true, au, List.getElem?_eq_getElem hi, List.getElem?_eq_getElem hk, Option.bind_some, l4, bz, aC (show k < 4611686018427387904 by omega)])
     have l2 : aA fv (w.1, w.2.1, w.2.2.1, w.2.2.2.1, w.2.2.2.2.1, w.2.2.2.2.2.1, ((i : Nat) : Int), (0 : Int), ()) = _ := l2; simp only [fw, nm, aw hi, cond_true, l2, bz, Option.bind_some, aC (show i < 4611686018427387904 by omega)])
 have l0 : aA fw (w.1, w.2.1, w.2.2.1, w.2.2.2.1, w.2.2.2.2.1, w.2.2.2.2.2.1, (0 : Int), ()) = _ := l0; unfold np; rw [l0]; rfl
theorem Hm (code : List (Int × Unit)) : pF code = some (true, ()) := by
 unfold pF DF
 by_cases hb : (1048576 : Int) < ((List.length code : Nat) : Int)
 · rw [af hb]; rfl
 rw [ai hb]; have hc : code.length ≤ 1048576 := by omega
 obtain ⟨s0, e0⟩ := Yx code hc; obtain ⟨c, ms, fc, a', s', e1, hv, hl, he, _⟩ := SU code 0 s0 ⟨by omega, by omega, hc⟩ hc; have hr := Gf hv; obtain ⟨w, jt, e2, e3, e4, hW, hT, ⟨R, A, B, hA⟩, hH⟩ := QX hr fc hl he; obtain ⟨q0, q1, q2⟩ := hW.Bc; have hs := hW.said.2; have hlen := hW.len; have hhl := hW.heard; have YE : ∀ m ∈ w.2.2.1, m.2.2.2.1.length ≤ 1048576 := fun m hm => by
   have := (bj _ (hW.ld m hm).1.items).1; omega
 have hB : QY w.2.2.2.2.2.1 w.2.2.2.2.1 := fun i hi => by
   obtain ⟨n, _, n1, n2, _⟩ := hH.heard i (by omega) hi; exact ⟨n, n1, n2⟩
 have ZB : ∀ i (hi : i < w.2.2.2.2.1.length), (w.2.2.2.2.1[i]).1.length ≤ 1048576 := fun i hi => by
   obtain ⟨n, n1, n2⟩ := hB i hi; rw [n2, List.length_take]; omega
 have hS : Safe w := fun i hi x hx h2 m hm => by
   obtain ⟨n, _, n1, n2, n3⟩ := hH.heard i (by omega) hi; have Ue := n3 x hx h2; obtain ⟨j, hj, rfl⟩ := List.mem_iff_getElem.1 hm; have hL := hA.Cg.line i j (by omega) (by omega); rw [oD j1 (show i < w.2.2.1.length by omega), oD yO hj] at hL; have hL : (w.2.2.1[i]).2.2.2.2.2.2.2.2.1 ≤ ((bE (w.2.2.1[j]).2.2.2.1 : Nat) : Int) := hL; have Q6 : x ∈ w.2.2.2.2.2.1 := by rw [n2] at hx; exact List.mem_of_mem_take hx
   obtain ⟨p, hp, rfl⟩ := List.mem_iff_getElem.1 Q6; have ajE := hT.num p hp; obtain ⟨_, a1, _⟩ := (rC (w.2.2.1[j]).2.2.2.1 (YE _ hm)).2.2; obtain ⟨r, hr⟩ := Option.isSome_iff_exists.1 (a1 p (by omega)); obtain ⟨m1, m2⟩ := ru hr; have h5 := Hk hT.num (hH.items _ hm r m1) m2; rw [List.getElem?_eq_getElem hp] at h5; injection h5 with h5; rw [ajE, hr, h5]
 have oT : jt.length ≤ 1048576 := by omega
 have l1 := bd (round := eO) (e := .inl ()) w.2.2.2.2.1.length (fun k => (w.1, w.2.1, w.2.2.1, w.2.2.2.1, w.2.2.2.2.1, w.2.2.2.2.2.1, ((k : Nat) : Int), ())) (by
   simp only [eO, mb, az, cond_false]) (fun k hk => by
   have kQ : k < w.2.2.1.length := by omega
   have hm := (hW.ld _ (List.getElem_mem kQ)).1; have hq := (uQ _ (Nat.le_trans hm.small (by decide))).2.1; rw [(uQ _ (Nat.le_trans hm.small (by decide))).2.2.2 hm] at hq; obtain ⟨n, n1, n2⟩ := hB k hk; have ln : (w.2.2.2.2.2.1.take n).length = n := by rw [List.length_take]; omega
   have hbg : nr (w.2.2.2.2.1[k]).1 w.2.2.2.2.2.1 = some (true, ()) := by
     unfold nr; rw [n2, ln]; simp only [af (show ((n : Nat) : Int) ≤ ((List.length w.2.2.2.2.2.1 : Nat) : Int) by omega), ak, cond_true, au, List.drop_zero, Ep (w.2.2.2.2.2.1.take n) (by omega), Option.bind_some]
   simp only [eO, mb, aw hk, ak, cond_true, au, eZ hk, eZ kQ, List.getElem?_eq_getElem hk, List.getElem?_eq_getElem kQ, Option.bind_some, hbg, hq, Bool.not_true, cond_false, aC (show k < 4611686018427387904 by omega)])
 have l1 : aA eO (w.1, w.2.1, w.2.2.1, w.2.2.2.1, w.2.2.2.2.1, w.2.2.2.2.2.1, (0 : Int), ()) = _ := l1; simp only [cond_false, fm, e0, e1, Option.bind_some, e2, e3, Bool.not_true, E1 jt oT, af (show ((List.length w.2.2.2.2.1 : Nat) : Int) = ((List.length ms : Nat) : Int) by omega), Ep w.2.2.2.2.2.1 (by omega), S4 hB (by omega) (by omega), S5 hB (by omega) (by omega), Q0 hS (by omega) q0 YE ZB, Q1 hS (by omega) q0 YE ZB, l1, bz]
end Go.TM

/- What a member does that holds a token. -/
import Derived.Test.YtiljcjnnhkidbaaGreatCPHoldL
namespace Go.TM
open Go
theorem sJ.id {m : ee} (h : sJ m) : 1 ≤ m.1 ∧ m.1 ≤ 5 := by
 obtain ⟨k, hk, e⟩ := List.mem_iff_getElem.1 h.mem; have := (h.ring.2.2 k hk hk).1; rw [e] at this; exact this
theorem Ih {list : aI} {xs : dn} {ms : List Int} {c c2 : Int} (hx : sI c xs xs.length) (hc : c ≤ c2) (hm : ∀ s ∈ ms, 1 ≤ s ∧ s ≤ c2) : sI c2 (aN (iM list xs ms)) (aN (iM list xs ms)).length := by
 have hp : (iM list xs ms).Pairwise (· < ·) := List.Pairwise.sublist (List.take_sublist _ _) (List.Pairwise.filter _ (zx 60)); have rF : ∀ s ∈ iM list xs ms, 1 ≤ s ∧ s ≤ c2 := by
   intro s hs; have h1 := List.mem_of_mem_take hs; have h2 := (List.mem_filter.1 h1).2; unfold fC at h2; rw [Bool.or_eq_true, Bool.and_eq_true, decide_eq_true_eq, decide_eq_true_eq] at h2; rcases h2 with ⟨_, h2⟩ | h2
   · unfold aZ at h2; obtain ⟨r, hr, rfl⟩ := List.mem_map.1 h2; obtain ⟨k, hk, rfl⟩ := List.mem_iff_getElem.1 hr; have := hx k hk hk; exact ⟨this.1, by omega⟩
   · exact hm s h2
 intro k hk _; have yL : k < (iM list xs ms).length := by rwa [bJ] at hk
 have e : ∀ j (hj : j < (aN (iM list xs ms)).length) (hj' : j < (iM list xs ms).length), (aN (iM list xs ms))[j].1 = (iM list xs ms)[j] := by intro j hj hj'; simp [aN]
 rw [e k hk yL]; refine ⟨(rF _ (List.getElem_mem yL)).1, (rF _ (List.getElem_mem yL)).2, fun h0 => ?_⟩; rw [e (k - 1) (by omega) (by omega)]; exact List.pairwise_iff_getElem.1 hp (k - 1) k (by omega) yL (by omega)
theorem sY.drop {l : dn} (h : sY l l.length) (k : Nat) : sY (l.drop k) (l.drop k).length := by
 intro j hj _; rw [List.getElem_drop]; rw [List.length_drop] at hj; exact h (k + j) (by omega) (by omega)
theorem gO.drop {l : List (ByteArray × Unit)} (h : gO l l.length) (k : Nat) : gO (l.drop k) (l.drop k).length := by
 intro j hj _; rw [List.getElem_drop]; rw [List.length_drop] at hj; exact h (k + j) (by omega) (by omega)
structure Ub (m : ee) (t : jU) (n : ee) (said : aI) (k : Nat) (nx : jU) : Prop where
 Ef : k ≤ 3 ∧ k ≤ m.2.2.2.2.2.1.length ∧ t.2.2.1 + ((k : Nat) : Int) ≤ 60
 said : said = q9 t m.2.2.2.1 ++ cP t.2.2.1 m.1 m.2.2.2.2.1 m.2.2.2.2.2.1 k
 id : n.1 = m.1 ∧ n.2.1 = m.2.1 ∧ n.2.2.1 = m.2.2.1
 items : n.2.2.2.1 = bc m.2.2.2.1 (cP t.2.2.1 m.1 m.2.2.2.2.1 m.2.2.2.2.2.1 k)
 words : n.2.2.2.2.1 = m.2.2.2.2.1.drop k ∧ n.2.2.2.2.2.1 = m.2.2.2.2.2.1.drop k
 round : n.2.2.2.2.2.2.1 = t.2.1 ∧ n.2.2.2.2.2.2.2.1 = t.2.2.2.1 ∧ m.2.2.2.2.2.2.2.2.1 ≤ n.2.2.2.2.2.2.2.2.1 ∧ n.2.2.2.2.2.2.2.2.2.1 = m.2.2.2.2.2.2.2.2.2.1
 last : (n.2.2.2.2.2.2.2.2.2.2.1, n.2.2.2.2.2.2.2.2.2.2.2.1, n.2.2.2.2.2.2.2.2.2.2.2.2.1, n.2.2.2.2.2.2.2.2.2.2.2.2.2.1, n.2.2.2.2.2.2.2.2.2.2.2.2.2.2.1, n.2.2.2.2.2.2.2.2.2.2.2.2.2.2.2.1, ()) = nx
 nq : sJ n
 tq : zK nx
 next : nx.1 = t.1 ∧ nx.2.1 = t.2.1 + 1 ∧ nx.2.2.1 = t.2.2.1 + ((k : Nat) : Int)
 acU : k = min 3 m.2.2.2.2.2.1.length ∨ t.2.2.1 + ((k : Nat) : Int) = 60
 marks : nx.2.2.2.1 = zv (t.2.2.1 + ((k : Nat) : Int)) (if t.2.2.2.1 = t.2.2.1 ∧ t.2.2.2.2.1 = 0 then t.2.2.1 + ((k : Nat) : Int) else t.2.2.2.1) t.2.2.2.2.1 m.1 ((cS n.2.2.2.1 : Nat) : Int) ∧ nx.2.2.2.2.1 = zw (t.2.2.1 + ((k : Nat) : Int)) (if t.2.2.2.1 = t.2.2.1 ∧ t.2.2.2.2.1 = 0 then t.2.2.1 + ((k : Nat) : Int) else t.2.2.2.1) t.2.2.2.2.1 m.1 ((cS n.2.2.2.1 : Nat) : Int)
 line : n.2.2.2.2.2.2.2.2.1 = m.2.2.2.2.2.2.2.2.1 ∨ (n.2.2.2.2.2.2.2.2.1 ≤ m.2.2.2.2.2.2.2.1 ∧ n.2.2.2.2.2.2.2.2.1 ≤ t.2.2.2.1 ∧ n.2.2.2.2.2.2.2.2.1 ≤ ((cS n.2.2.2.1 : Nat) : Int))
 XO : ∀ s ∈ aZ nx.2.2.2.2.2.1, hasB n.2.2.2.1 s = false
theorem I5 (m : ee) (t : jU) (hm : sJ m) (ht : zK t) (hc : t.1 = m.2.1) (hr1 : m.2.2.2.2.2.2.1 < t.2.1) (hr2 : t.2.1 < 1000000000) :
   ∃ (n : ee) (said : aI) (k : Nat) (nx : jU), Ub m t n said k nx ∧ iS m.1 m.2.1 m.2.2.1 m.2.2.2.1 m.2.2.2.2.1 m.2.2.2.2.2.1 m.2.2.2.2.2.2.1 m.2.2.2.2.2.2.2.1 m.2.2.2.2.2.2.2.2.1 m.2.2.2.2.2.2.2.2.2.1 m.2.2.2.2.2.2.2.2.2.2.1 m.2.2.2.2.2.2.2.2.2.2.2.1 m.2.2.2.2.2.2.2.2.2.2.2.2.1 m.2.2.2.2.2.2.2.2.2.2.2.2.2.1 m.2.2.2.2.2.2.2.2.2.2.2.2.2.2.1 m.2.2.2.2.2.2.2.2.2.2.2.2.2.2.2.1 t.1 t.2.1 t.2.2.1 t.2.2.2.1 t.2.2.2.2.1 t.2.2.2.2.2.1 = some (n.1, n.2.1, n.2.2.1, n.2.2.2.1, n.2.2.2.2.1, n.2.2.2.2.2.1, n.2.2.2.2.2.2.1, n.2.2.2.2.2.2.2.1, n.2.2.2.2.2.2.2.2.1, n.2.2.2.2.2.2.2.2.2.1, n.2.2.2.2.2.2.2.2.2.2.1, n.2.2.2.2.2.2.2.2.2.2.2.1, n.2.2.2.2.2.2.2.2.2.2.2.2.1, n.2.2.2.2.2.2.2.2.2.2.2.2.2.1, n.2.2.2.2.2.2.2.2.2.2.2.2.2.2.1, n.2.2.2.2.2.2.2.2.2.2.2.2.2.2.2.1, said, ((k : Nat) : Int), nx.1, nx.2.1, nx.2.2.1, nx.2.2.2.1, nx.2.2.2.2.1, nx.2.2.2.2.2.1, true, ()) ∧ gU m.1 m.2.1 m.2.2.1 m.2.2.2.1 m.2.2.2.2.1 m.2.2.2.2.2.1 m.2.2.2.2.2.2.1 m.2.2.2.2.2.2.2.1 m.2.2.2.2.2.2.2.2.1 m.2.2.2.2.2.2.2.2.2.1 m.2.2.2.2.2.2.2.2.2.2.1 m.2.2.2.2.2.2.2.2.2.2.2.1 m.2.2.2.2.2.2.2.2.2.2.2.2.1 m.2.2.2.2.2.2.2.2.2.2.2.2.2.1 m.2.2.2.2.2.2.2.2.2.2.2.2.2.2.1 m.2.2.2.2.2.2.2.2.2.2.2.2.2.2.2.1 t.1 t.2.1 t.2.2.1 t.2.2.2.1 t.2.2.2.2.1 t.2.2.2.2.2.1 = some (n.1, n.2.1, n.2.2.1, n.2.2.2.1, n.2.2.2.2.1, n.2.2.2.2.2.1, n.2.2.2.2.2.2.1, n.2.2.2.2.2.2.2.1, n.2.2.2.2.2.2.2.2.1, n.2.2.2.2.2.2.2.2.2.1, n.2.2.2.2.2.2.2.2.2.2.1, n.2.2.2.2.2.2.2.2.2.2.2.1, n.2.2.2.2.2.2.2.2.2.2.2.2.1, n.2.2.2.2.2.2.2.2.2.2.2.2.2.1, n.2.2.2.2.2.2.2.2.2.2.2.2.2.2.1, n.2.2.2.2.2.2.2.2.2.2.2.2.2.2.2.1, said, nx.1, nx.2.1, nx.2.2.1, nx.2.2.2.1, nx.2.2.2.2.1, nx.2.2.2.2.2.1, true, ()) := by
 have zb := hm.id; have hW := hm.small; have hw := hW; unfold xR at hw; have hwl : t.2.2.2.2.2.1.length ≤ 20 := ht.2.2.2.2.2.1; obtain ⟨k, t3, hN, q1, q2, q3, q4, q5, q6⟩ := Ia t.1 t.2.1 t.2.2.1 t.2.2.2.1 t.2.2.2.2.1 t.2.2.2.2.2.1 m.1 m.2.2.2.2.1 m.2.2.2.2.2.1 (by omega) (by omega) zb ht; obtain ⟨o0, o1, o2, o3, o4, o5, o6, s1, s2, _⟩ := Ea t.1 t.2.1 t.2.2.1 t.2.2.2.1 t.2.2.2.2.1 t.2.2.2.2.2.1 m.1 m.2.2.2.2.1 m.2.2.2.2.2.1 (by omega); rw [hN] at s2; injection s2 with s2; simp only [Prod.mk.injEq] at s2; obtain ⟨rfl, rfl, rfl, rfl, rfl, rfl, rfl, _⟩ := s2; have hF : ∀ f ∈ cP t.2.2.1 m.1 m.2.2.2.2.1 m.2.2.2.2.2.1 k, kc f := zy ⟨ht.2.2.1.1, q3⟩ zb q2 hm.short; have hFl := lG t.2.2.1 m.1 m.2.2.2.2.1 m.2.2.2.2.2.1 k; generalize hFF : cP t.2.2.1 m.1 m.2.2.2.2.1 m.2.2.2.2.2.1 k = F at *; subst hFl; have hi := ou F hm.items hF; have VO := cf _ hi; have agH := cf _ hm.items; obtain ⟨a1, a2, _⟩ := wO (bc m.2.2.2.1 F) (by omega); have aeg : cS m.2.2.2.1 ≤ cS (bc m.2.2.2.1 F) := Gb (by omega) (by omega) fun r hr => ⟨r, uC F hr, rfl⟩
 obtain ⟨z0, z1, z2, z3, z4, z5, z6⟩ := ht; have NO : sI (t.2.2.1 + ((List.length F : Nat) : Int)) t.2.2.2.2.2.1 t.2.2.2.2.2.1.length := fun j hj L9 => by
   have := z6 j hj L9; exact ⟨this.1, by omega, this.2.2⟩
 have ht3 : 0 ≤ t3 ∧ t3 ≤ t.2.2.1 + ((List.length F : Nat) : Int) := by
   have z3a := z3.1; have z3b := z3.2; have z2a := z2.1; rcases q4 with e | e <;> rw [e] <;> omega
 have htq : zK (t.1, t.2.1, t.2.2.1 + ((List.length F : Nat) : Int), t3, t.2.2.2.2.1, t.2.2.2.2.2.1, ()) := ⟨z0, z1, ⟨by show 0 ≤ t.2.2.1 + _; omega, q3⟩, ht3, z4, z5, NO⟩; obtain ⟨u1, _, u3⟩ := uz (t.1, t.2.1, t.2.2.1 + ((List.length F : Nat) : Int), t3, t.2.2.2.2.1, t.2.2.2.2.2.1, ()) (by show t.2.2.2.2.2.1.length ≤ _; omega); rw [u3.2 htq] at u1; obtain ⟨Uc, Po, m1, m2, _, m4, m5⟩ := NK t.1 t.2.1 (t.2.2.1 + ((List.length F : Nat) : Int)) t3 t.2.2.2.2.1 t.2.2.2.2.2.1 m.1 ((cS (bc m.2.2.2.1 F) : Nat) : Int) (by omega) u1; have m4 := m4 rfl zb.1 zb.2 (by omega) htq.2.2.2.1.1 htq.2.2.2.1.2; have m5 := m5 rfl zb.1 zb.2 (by omega); obtain ⟨ms, l1, l2, l3, l4⟩ := F8 (bc m.2.2.2.1 F) (t.2.2.1 + ((List.length F : Nat) : Int)) (by omega); have ls := Ic t.1 t.2.1 (t.2.2.1 + ((List.length F : Nat) : Int)) Uc Po t.2.2.2.2.2.1 (bc m.2.2.2.1 F) ms (by omega) (by omega) l1 l3; have li := Ie t.1 t.2.1 (t.2.2.1 + ((List.length F : Nat) : Int)) Uc Po t.2.2.2.2.2.1 (bc m.2.2.2.1 F) ms (by omega) (by omega) l2 l3 (fun s hs => ⟨(l4 s hs).1, (l4 s hs).2.1.1, (l4 s hs).2.2⟩); have hlw : sI (t.2.2.1 + ((List.length F : Nat) : Int)) (aN (iM (bc m.2.2.2.1 F) t.2.2.2.2.2.1 ms)) (aN (iM (bc m.2.2.2.1 F) t.2.2.2.2.2.1 ms)).length := Ih z6 (by omega) fun s hs => ⟨(l4 s hs).1, (l4 s hs).2.1.2⟩
 have hll : (aN (iM (bc m.2.2.2.1 F) t.2.2.2.2.2.1 ms)).length ≤ 20 := by
   rw [bJ]; unfold iM; rw [List.length_take]; omega
 have hlk : ∀ s ∈ aZ (aN (iM (bc m.2.2.2.1 F) t.2.2.2.2.2.1 ms)), hasB (bc m.2.2.2.1 F) s = false := by
   rw [my]; intro s hs; have h2 := (List.mem_filter.1 (List.mem_of_mem_take hs)).2; unfold fC at h2; rw [Bool.or_eq_true, Bool.and_eq_true, decide_eq_true_eq, decide_eq_true_eq] at h2; rcases h2 with ⟨h2, _⟩ | h2
   · simpa using h2
   · exact (l4 s h2).2.2
 generalize aN (iM (bc m.2.2.2.1 F) t.2.2.2.2.2.1 ms) = W at *; have Pp : IntKind.i64.wrap (t.2.1 + (1 : Int)) = t.2.1 + 1 := ft (by omega) (by omega); obtain ⟨c1, c2⟩ := iq t.1 (t.2.1 + 1) (t.2.2.1 + ((List.length F : Nat) : Int)) Uc Po W (by omega); have HT : xR m ≤ 1048576 := by omega
 obtain ⟨kb1, kb2, kb3⟩ := pI m HT; rw [kb3.2 hm] at kb1 kb2; obtain ⟨kt1, kt2, kt3⟩ := uz t (by omega); rw [kt3.2 ⟨z0, z1, z2, z3, z4, z5, z6⟩] at kt1 kt2; obtain ⟨p1, p2⟩ := kQ m.1 m.2.1 m.2.2.1 m.2.2.2.1 m.2.2.2.2.1 m.2.2.2.2.2.1 m.2.2.2.2.2.2.1 m.2.2.2.2.2.2.2.1 m.2.2.2.2.2.2.2.2.1 m.2.2.2.2.2.2.2.2.2.1 m.2.2.2.2.2.2.2.2.2.2.1 m.2.2.2.2.2.2.2.2.2.2.2.1 m.2.2.2.2.2.2.2.2.2.2.2.2.1 m.2.2.2.2.2.2.2.2.2.2.2.2.2.1 m.2.2.2.2.2.2.2.2.2.2.2.2.2.2.1 m.2.2.2.2.2.2.2.2.2.2.2.2.2.2.2.1 HT; obtain ⟨g1, g2⟩ := NN t m.2.2.2.1 (by omega) (by omega); have hgl := BI t m.2.2.2.1; have htx := hm.texts; generalize XP : (if (if ((cS (bc m.2.2.2.1 F) : Nat) : Int) < (if t.2.2.2.1 < m.2.2.2.2.2.2.2.1 then t.2.2.2.1 else m.2.2.2.2.2.2.2.1) then ((cS (bc m.2.2.2.1 F) : Nat) : Int) else (if t.2.2.2.1 < m.2.2.2.2.2.2.2.1 then t.2.2.2.1 else m.2.2.2.2.2.2.2.1)) > m.2.2.2.2.2.2.2.2.1 then (if ((cS (bc m.2.2.2.1 F) : Nat) : Int) < (if t.2.2.2.1 < m.2.2.2.2.2.2.2.1 then t.2.2.2.1 else m.2.2.2.2.2.2.2.1) then ((cS (bc m.2.2.2.1 F) : Nat) : Int) else (if t.2.2.2.1 < m.2.2.2.2.2.2.2.1 then t.2.2.2.1 else m.2.2.2.2.2.2.2.1)) else m.2.2.2.2.2.2.2.2.1) = line; have hle : m.2.2.2.2.2.2.2.2.1 ≤ line := by
   rw [← XP]
   split <;> omega
 have hnx : zK (t.1, t.2.1 + 1, t.2.2.1 + ((List.length F : Nat) : Int), Uc, Po, W, ()) := ⟨z0, ⟨by show 1 ≤ t.2.1 + 1; omega, by show t.2.1 + 1 ≤ 1000000000; omega⟩, ⟨by show 0 ≤ t.2.2.1 + _; have := z2.1; omega, q3⟩, ⟨m4.1, m4.2.1⟩, by
   have z4a := z4.1; have z4b := z4.2; show 0 ≤ Po ∧ Po ≤ 5; rcases m4.2.2.2.2 with e | e | ⟨e, _⟩ <;> rw [e] <;> omega, hll, hlw⟩
 refine ⟨(m.1, m.2.1, m.2.2.1, bc m.2.2.2.1 F, m.2.2.2.2.1.drop F.length, m.2.2.2.2.2.1.drop F.length, t.2.1, t.2.2.2.1, line, m.2.2.2.2.2.2.2.2.2.1, t.1, t.2.1 + 1, t.2.2.1 + ((List.length F : Nat) : Int), Uc, Po, W, ()), q9 t m.2.2.2.1 ++ F, F.length, (t.1, t.2.1 + 1, t.2.2.1 + ((List.length F : Nat) : Int), Uc, Po, W, ()), ?_, ?_, ?_⟩
 · have hn : sJ (m.1, m.2.1, m.2.2.1, bc m.2.2.2.1 F, m.2.2.2.2.1.drop F.length, m.2.2.2.2.2.1.drop F.length, t.2.1, t.2.2.2.1, line, m.2.2.2.2.2.2.2.2.2.1, t.1, t.2.1 + 1, t.2.2.1 + ((List.length F : Nat) : Int), Uc, Po, W, ()) := {
     ring := hm.ring
     mem := hm.mem
     items := hi
     texts := ⟨by show (m.2.2.2.2.2.1.drop F.length).length ≤ 20; rw [List.length_drop]; omega, by show (m.2.2.2.2.1.drop F.length).length = (m.2.2.2.2.2.1.drop F.length).length; rw [List.length_drop, List.length_drop]; omega⟩
     Pj := hm.Pj.drop _
     short := hm.short.drop _
     round := ⟨by show 0 ≤ t.2.1; omega, by show t.2.1 ≤ 1000000000; omega⟩
     seen := ⟨z3.1, by show t.2.2.2.1 ≤ 60; have := z3.2; omega⟩
     line := by
       have hl := hm.line; have hs := hm.seen; have ha := z3.1; show 0 ≤ line ∧ line ≤ ((cS (bc m.2.2.2.1 F) : Nat) : Int); rw [← XP]
       split <;> split <;> (try split) <;> omega
     heard := by
       have hl := hm.heard; show 0 ≤ m.2.2.2.2.2.2.2.2.2.1 ∧ m.2.2.2.2.2.2.2.2.2.1 ≤ ((cS (bc m.2.2.2.1 F) : Nat) : Int); omega
     last := .inr hnx }
   have XQ : F.length = min 3 m.2.2.2.2.2.1.length ∨ t.2.2.1 + ((F.length : Nat) : Int) = 60 := by
     rcases q5 with h | h | ⟨h, h'⟩
     · exact .inl h
     · exact .inr (by omega)
     · have := hm.short _ h h; omega
   have XR : line = m.2.2.2.2.2.2.2.2.1 ∨ (line ≤ m.2.2.2.2.2.2.2.1 ∧ line ≤ t.2.2.2.1 ∧ line ≤ ((cS (bc m.2.2.2.1 F) : Nat) : Int)) := by
     rw [← XP]
     split <;> split <;> (try split) <;> omega
   exact { Ef := ⟨q1, q2, q3⟩, said := by rw [hFF], id := ⟨rfl, rfl, rfl⟩, items := by rw [hFF], words := ⟨rfl, rfl⟩, round := ⟨rfl, rfl, hle, rfl⟩, last := rfl, nq := hn, tq := hnx, next := ⟨rfl, rfl, rfl⟩, acU := XQ, marks := ⟨m5.1.trans (by rw [q6]), m5.2.trans (by rw [q6])⟩, line := XR, XO := hlk }
 · unfold iS; simp only [ah hc, ai (show ¬ t.2.1 ≤ m.2.2.2.2.2.2.1 by omega), ai (show ¬ (1000000000 : Int) ≤ t.2.1 by omega), kb2, kt2, p2, g2, hN, Option.bind_some, Bool.not_true, cond_false, cond_true, aq, aA, ah (show ((List.length F : Nat) : Int) ≤ ((List.length m.2.2.2.2.1 : Nat) : Int) by omega), ah (show ((List.length F : Nat) : Int) ≤ ((List.length m.2.2.2.2.2.1 : Nat) : Int) by omega)]; rw [BJ (hx := hm.items) (hf := hF) (hn := by omega) ..]; simp only [iz, a2, m2, li, Pp, c2, Option.bind_some, XP]; rw [aH (show ((q9 t m.2.2.2.1).length + F.length) * 40 ≤ lim by unfold lim; omega)]; rfl
 · subst XP; unfold gU; simp only [ah hc, ai (show ¬ t.2.1 ≤ m.2.2.2.2.2.2.1 by omega), ai (show ¬ (1000000000 : Int) ≤ t.2.1 by omega), kb1, kt1, p1, g1, s1, Option.bind_some, Bool.not_true, cond_false, cond_true, aq, aA, ah (show ((List.length F : Nat) : Int) ≤ ((List.length m.2.2.2.2.1 : Nat) : Int) by omega), ah (show ((List.length F : Nat) : Int) ≤ ((List.length m.2.2.2.2.2.1 : Nat) : Int) by omega),
     aH (show (0 + (q9 t m.2.2.2.1).length) * 40 ≤ lim by unfold lim; omega), aH (show (0 + (List.drop F.length m.2.2.2.2.1).length) * 8 ≤ lim by rw [List.length_drop]; unfold lim; omega), aH (show (0 + (List.drop F.length m.2.2.2.2.2.1).length) * 16 ≤ lim by rw [List.length_drop]; unfold lim; omega), List.nil_append]
   rw [BK (hx := hm.items) (hf := hF) (hn := by omega) ..]; simp only [iz, a1, m1, Option.bind_some, aH (show ((q9 t m.2.2.2.1).length + F.length) * 40 ≤ lim by unfold lim; omega), cond_true]
   by_cases h1 : t.2.2.2.1 < m.2.2.2.2.2.2.2.1
   · rw [ah h1, if_pos h1]; simp only [cond_true]
     by_cases h2 : ((cS (bc m.2.2.2.1 F) : Nat) : Int) < t.2.2.2.1
     · rw [ah h2, if_pos h2]; simp only [cond_true]
       by_cases h3 : m.2.2.2.2.2.2.2.2.1 < ((cS (bc m.2.2.2.1 F) : Nat) : Int)
       · rw [ah h3, if_pos (show ((cS (bc m.2.2.2.1 F) : Nat) : Int) > m.2.2.2.2.2.2.2.2.1 from h3)]; simp only [cond_true, ls, Pp, c1, Option.bind_some]
       · rw [ai h3, if_neg (show ¬ ((cS (bc m.2.2.2.1 F) : Nat) : Int) > m.2.2.2.2.2.2.2.2.1 from h3)]; simp only [cond_false, ls, Pp, c1, Option.bind_some]
     · rw [ai h2, if_neg h2]; simp only [cond_false]
       by_cases h3 : m.2.2.2.2.2.2.2.2.1 < t.2.2.2.1
       · rw [ah h3, if_pos (show t.2.2.2.1 > m.2.2.2.2.2.2.2.2.1 from h3)]; simp only [cond_true, ls, Pp, c1, Option.bind_some]
       · rw [ai h3, if_neg (show ¬ t.2.2.2.1 > m.2.2.2.2.2.2.2.2.1 from h3)]; simp only [cond_false, ls, Pp, c1, Option.bind_some]
   · rw [ai h1, if_neg h1]; simp only [cond_false]
     by_cases h2 : ((cS (bc m.2.2.2.1 F) : Nat) : Int) < m.2.2.2.2.2.2.2.1
     · rw [ah h2, if_pos h2]; simp only [cond_true]
       by_cases h3 : m.2.2.2.2.2.2.2.2.1 < ((cS (bc m.2.2.2.1 F) : Nat) : Int)
       · rw [ah h3, if_pos (show ((cS (bc m.2.2.2.1 F) : Nat) : Int) > m.2.2.2.2.2.2.2.2.1 from h3)]; simp only [cond_true, ls, Pp, c1, Option.bind_some]
       · rw [ai h3, if_neg (show ¬ ((cS (bc m.2.2.2.1 F) : Nat) : Int) > m.2.2.2.2.2.2.2.2.1 from h3)]; simp only [cond_false, ls, Pp, c1, Option.bind_some]
     · rw [ai h2, if_neg h2]; simp only [cond_false]
       by_cases h3 : m.2.2.2.2.2.2.2.2.1 < m.2.2.2.2.2.2.2.1
       · rw [ah h3, if_pos (show m.2.2.2.2.2.2.2.1 > m.2.2.2.2.2.2.2.2.1 from h3)]; simp only [cond_true, ls, Pp, c1, Option.bind_some]
       · rw [ai h3, if_neg (show ¬ m.2.2.2.2.2.2.2.1 > m.2.2.2.2.2.2.2.2.1 from h3)]; simp only [cond_false, ls, Pp, c1, Option.bind_some]
noncomputable def zA (m : ee) (t : jU) : Bool := vi m && (Cl t && (decide (t.1 = m.2.1) && (decide (m.2.2.2.2.2.2.1 < t.2.1) && decide (t.2.1 < 1000000000))))
theorem Eg (m : ee) (t : jU) (h : xR m ≤ 1048576) (hw : t.2.2.2.2.2.1.length ≤ 1048576) (hn : zA m t = false) : iS m.1 m.2.1 m.2.2.1 m.2.2.2.1 m.2.2.2.2.1 m.2.2.2.2.2.1 m.2.2.2.2.2.2.1 m.2.2.2.2.2.2.2.1 m.2.2.2.2.2.2.2.2.1 m.2.2.2.2.2.2.2.2.2.1 m.2.2.2.2.2.2.2.2.2.2.1 m.2.2.2.2.2.2.2.2.2.2.2.1 m.2.2.2.2.2.2.2.2.2.2.2.2.1 m.2.2.2.2.2.2.2.2.2.2.2.2.2.1 m.2.2.2.2.2.2.2.2.2.2.2.2.2.2.1 m.2.2.2.2.2.2.2.2.2.2.2.2.2.2.2.1 t.1 t.2.1 t.2.2.1 t.2.2.2.1 t.2.2.2.2.1 t.2.2.2.2.2.1 = some ((0 : Int), (0 : Int), [], [], [], [], (0 : Int), (0 : Int), (0 : Int), (0 : Int), (0 : Int), (0 : Int), (0 : Int), (0 : Int), (0 : Int), [], [], (0 : Int), (0 : Int), (0 : Int), (0 : Int), (0 : Int), (0 : Int), [], false, ()) ∧
   gU m.1 m.2.1 m.2.2.1 m.2.2.2.1 m.2.2.2.2.1 m.2.2.2.2.2.1 m.2.2.2.2.2.2.1 m.2.2.2.2.2.2.2.1 m.2.2.2.2.2.2.2.2.1 m.2.2.2.2.2.2.2.2.2.1 m.2.2.2.2.2.2.2.2.2.2.1 m.2.2.2.2.2.2.2.2.2.2.2.1 m.2.2.2.2.2.2.2.2.2.2.2.2.1 m.2.2.2.2.2.2.2.2.2.2.2.2.2.1 m.2.2.2.2.2.2.2.2.2.2.2.2.2.2.1 m.2.2.2.2.2.2.2.2.2.2.2.2.2.2.2.1 t.1 t.2.1 t.2.2.1 t.2.2.2.1 t.2.2.2.2.1 t.2.2.2.2.2.1 = some (m.1, m.2.1, m.2.2.1, m.2.2.2.1, m.2.2.2.2.1, m.2.2.2.2.2.1, m.2.2.2.2.2.2.1, m.2.2.2.2.2.2.2.1, m.2.2.2.2.2.2.2.2.1, m.2.2.2.2.2.2.2.2.2.1, m.2.2.2.2.2.2.2.2.2.2.1, m.2.2.2.2.2.2.2.2.2.2.2.1, m.2.2.2.2.2.2.2.2.2.2.2.2.1, m.2.2.2.2.2.2.2.2.2.2.2.2.2.1, m.2.2.2.2.2.2.2.2.2.2.2.2.2.2.1, m.2.2.2.2.2.2.2.2.2.2.2.2.2.2.2.1, [], (0 : Int), (0 : Int), (0 : Int), (0 : Int), (0 : Int), [], false, ()) := by
 obtain ⟨k1, k2, _⟩ := pI m h; obtain ⟨t1, t2, _⟩ := uz t hw; obtain ⟨p1, _⟩ := kQ m.1 m.2.1 m.2.2.1 m.2.2.2.1 m.2.2.2.2.1 m.2.2.2.2.2.1 m.2.2.2.2.2.2.1 m.2.2.2.2.2.2.2.1 m.2.2.2.2.2.2.2.2.1 m.2.2.2.2.2.2.2.2.2.1 m.2.2.2.2.2.2.2.2.2.2.1 m.2.2.2.2.2.2.2.2.2.2.2.1 m.2.2.2.2.2.2.2.2.2.2.2.2.1 m.2.2.2.2.2.2.2.2.2.2.2.2.2.1 m.2.2.2.2.2.2.2.2.2.2.2.2.2.2.1 m.2.2.2.2.2.2.2.2.2.2.2.2.2.2.2.1 h; unfold zA at hn
 constructor
 · unfold iS
   by_cases a1 : t.1 = m.2.1
   case neg => rw [ai a1]; rfl
   by_cases a2 : m.2.2.2.2.2.2.1 < t.2.1
   case neg => rw [ah a1, ah (show t.2.1 ≤ m.2.2.2.2.2.2.1 by omega)]; rfl
   by_cases a3 : t.2.1 < 1000000000
   case neg => rw [ah a1, ai (show ¬ t.2.1 ≤ m.2.2.2.2.2.2.1 by omega), ah (show (1000000000 : Int) ≤ t.2.1 by omega)]; rfl
   rw [ah a1, ah a2, ah a3] at hn; rw [ah a1, ai (show ¬ t.2.1 ≤ m.2.2.2.2.2.2.1 by omega), ai (show ¬ (1000000000 : Int) ≤ t.2.1 by omega)]; simp only [Bool.not_true, cond_false, k2, Option.bind_some]
   cases hb : vi m
   · rfl
   · rw [hb] at hn
     cases hc : Cl t
     · simp only [t2, hc, Bool.not_true, cond_false, Option.bind_some]; rfl
     · rw [hc] at hn; cases hn
 · unfold gU; simp only [p1, k1, Option.bind_some]
   cases hb : vi m
   · rfl
   simp only [Bool.not_true, cond_false, t1, Option.bind_some]
   cases hc : Cl t
   · rfl
   by_cases a1 : t.1 = m.2.1
   case neg => rw [ai a1]; rfl
   by_cases a2 : m.2.2.2.2.2.2.1 < t.2.1
   case neg => rw [ah a1, ah (show t.2.1 ≤ m.2.2.2.2.2.2.1 by omega)]; rfl
   by_cases a3 : t.2.1 < 1000000000
   case neg => rw [ah a1, ai (show ¬ t.2.1 ≤ m.2.2.2.2.2.2.1 by omega), ah (show (1000000000 : Int) ≤ t.2.1 by omega)]; rfl
   rw [ah a1, ah a2, ah a3, hb, hc] at hn
   cases hn
def aW : ee := (0, 0, [], [], [], [], 0, 0, 0, 0, 0, 0, 0, 0, 0, [], ())
def I6 (m : ee) (level : Int) (text : ByteArray) : ee := (m.1, m.2.1, m.2.2.1, m.2.2.2.1, m.2.2.2.2.1 ++ [(level, ())], m.2.2.2.2.2.1 ++ [(text, ())], m.2.2.2.2.2.2)
noncomputable def NP (m : ee) (level : Int) (text : ByteArray) : Bool := vi m && ((decide (1 ≤ level) && decide (level ≤ 2)) && (decide (ByteArray.size text ≤ 60) && decide (m.2.2.2.2.2.1.length < 20)))
noncomputable def ir (m : ee) (level : Int) (text : ByteArray) : ee × Bool := bif NP m level text then (I6 m level text, true) else (aW, false)
theorem NQ (m : ee) (level : Int) (text : ByteArray) (h : xR m ≤ 1048576) : tY m.1 m.2.1 m.2.2.1 m.2.2.2.1 m.2.2.2.2.1 m.2.2.2.2.2.1 m.2.2.2.2.2.2.1 m.2.2.2.2.2.2.2.1 m.2.2.2.2.2.2.2.2.1 m.2.2.2.2.2.2.2.2.2.1 m.2.2.2.2.2.2.2.2.2.2.1 m.2.2.2.2.2.2.2.2.2.2.2.1 m.2.2.2.2.2.2.2.2.2.2.2.2.1 m.2.2.2.2.2.2.2.2.2.2.2.2.2.1 m.2.2.2.2.2.2.2.2.2.2.2.2.2.2.1 m.2.2.2.2.2.2.2.2.2.2.2.2.2.2.2.1 level text = some ((ir m level text).1.1, (ir m level text).1.2.1, (ir m level text).1.2.2.1, (ir m level text).1.2.2.2.1, (ir m level text).1.2.2.2.2.1, (ir m level text).1.2.2.2.2.2.1, (ir m level text).1.2.2.2.2.2.2.1, (ir m level text).1.2.2.2.2.2.2.2.1, (ir m level text).1.2.2.2.2.2.2.2.2.1, (ir m level text).1.2.2.2.2.2.2.2.2.2.1, (ir m level text).1.2.2.2.2.2.2.2.2.2.2.1, (ir m level text).1.2.2.2.2.2.2.2.2.2.2.2.1, (ir m level text).1.2.2.2.2.2.2.2.2.2.2.2.2.1, (ir m level text).1.2.2.2.2.2.2.2.2.2.2.2.2.2.1, (ir m level text).1.2.2.2.2.2.2.2.2.2.2.2.2.2.2.1, (ir m level text).1.2.2.2.2.2.2.2.2.2.2.2.2.2.2.2.1, (ir m level text).2, ()) ∧ F2 m.1 m.2.1 m.2.2.1 m.2.2.2.1 m.2.2.2.2.1 m.2.2.2.2.2.1 m.2.2.2.2.2.2.1 m.2.2.2.2.2.2.2.1 m.2.2.2.2.2.2.2.2.1 m.2.2.2.2.2.2.2.2.2.1 m.2.2.2.2.2.2.2.2.2.2.1 m.2.2.2.2.2.2.2.2.2.2.2.1 m.2.2.2.2.2.2.2.2.2.2.2.2.1 m.2.2.2.2.2.2.2.2.2.2.2.2.2.1 m.2.2.2.2.2.2.2.2.2.2.2.2.2.2.1 m.2.2.2.2.2.2.2.2.2.2.2.2.2.2.2.1 level text = some ((ir m level text).1.1, (ir m level text).1.2.1, (ir m level text).1.2.2.1, (ir m level text).1.2.2.2.1, (ir m level text).1.2.2.2.2.1, (ir m level text).1.2.2.2.2.2.1, (ir m level text).1.2.2.2.2.2.2.1, (ir m level text).1.2.2.2.2.2.2.2.1, (ir m level text).1.2.2.2.2.2.2.2.2.1, (ir m level text).1.2.2.2.2.2.2.2.2.2.1, (ir m level text).1.2.2.2.2.2.2.2.2.2.2.1, (ir m level text).1.2.2.2.2.2.2.2.2.2.2.2.1, (ir m level text).1.2.2.2.2.2.2.2.2.2.2.2.2.1, (ir m level text).1.2.2.2.2.2.2.2.2.2.2.2.2.2.1, (ir m level text).1.2.2.2.2.2.2.2.2.2.2.2.2.2.2.1, (ir m level text).1.2.2.2.2.2.2.2.2.2.2.2.2.2.2.2.1, (ir m level text).2, ()) := by
 obtain ⟨k1, k2, k3⟩ := pI m h; obtain ⟨p1, p2⟩ := kQ m.1 m.2.1 m.2.2.1 m.2.2.2.1 m.2.2.2.2.1 m.2.2.2.2.2.1 m.2.2.2.2.2.2.1 m.2.2.2.2.2.2.2.1 m.2.2.2.2.2.2.2.2.1 m.2.2.2.2.2.2.2.2.2.1 m.2.2.2.2.2.2.2.2.2.2.1 m.2.2.2.2.2.2.2.2.2.2.2.1 m.2.2.2.2.2.2.2.2.2.2.2.2.1 m.2.2.2.2.2.2.2.2.2.2.2.2.2.1 m.2.2.2.2.2.2.2.2.2.2.2.2.2.2.1 m.2.2.2.2.2.2.2.2.2.2.2.2.2.2.2.1 h; unfold tY F2 ir NP; simp only [k1, k2, p1, p2, mS, xP, Option.bind_some]
 cases hb : vi m
 · cases (decide (1 ≤ level) && decide (level ≤ 2))
   · exact ⟨rfl, rfl⟩
   cases decide ((60 : Int) < ((ByteArray.size text : Nat) : Int))
   · cases decide ((20 : Int) ≤ ((List.length m.2.2.2.2.2.1 : Nat) : Int))
     · exact ⟨rfl, rfl⟩
     · exact ⟨rfl, rfl⟩
   · exact ⟨rfl, rfl⟩
 have hs := (k3.1 hb).small; unfold xR at hs
 cases (decide (1 ≤ level) && decide (level ≤ 2))
 · exact ⟨rfl, rfl⟩
 by_cases w1 : ByteArray.size text ≤ 60
 case neg => rw [ai w1, ah (show (60 : Int) < ((ByteArray.size text : Nat) : Int) by omega)]; exact ⟨rfl, rfl⟩
 by_cases w2 : m.2.2.2.2.2.1.length < 20
 case neg => rw [ah w1, ai w2, ai (show ¬ (60 : Int) < ((ByteArray.size text : Nat) : Int) by omega), ah (show (20 : Int) ≤ ((List.length m.2.2.2.2.2.1 : Nat) : Int) by omega)]; exact ⟨rfl, rfl⟩
 rw [ah w1, ah w2, ai (show ¬ (60 : Int) < ((ByteArray.size text : Nat) : Int) by omega), ai (show ¬ (20 : Int) ≤ ((List.length m.2.2.2.2.2.1 : Nat) : Int) by omega)]; simp only [Bool.not_true, cond_false, aH (show (m.2.2.2.2.1.length + 1) * 8 ≤ lim by unfold lim; omega), aH (show (m.2.2.2.2.2.1.length + 1) * 16 ≤ lim by unfold lim; omega), cond_true, Bool.and_true]; exact ⟨rfl, rfl⟩
theorem Pq {m : ee} (hm : sJ m) {level : Int} {text : ByteArray} (hl : 1 ≤ level ∧ level ≤ 2) (ht : ByteArray.size text ≤ 60) (hn : m.2.2.2.2.2.1.length < 20) : sJ (I6 m level text) := {
 ring := hm.ring
 mem := hm.mem
 items := hm.items
 texts := ⟨by show (m.2.2.2.2.2.1 ++ [(text, ())]).length ≤ 20; simp; omega, by show (m.2.2.2.2.1 ++ [(level, ())]).length = (m.2.2.2.2.2.1 ++ [(text, ())]).length; have := hm.texts.2; simp; omega⟩
 Pj := fun j hj _ => by
   have hj : j < (m.2.2.2.2.1 ++ [(level, ())]).length := hj; show (decide (1 ≤ (m.2.2.2.2.1 ++ [(level, ())])[j].1) && decide ((m.2.2.2.2.1 ++ [(level, ())])[j].1 ≤ 2)) = true
   by_cases h : j < m.2.2.2.2.1.length
   · rw [List.getElem_append_left h]; exact hm.Pj j h h
   · have : j = m.2.2.2.2.1.length := by simp at hj; omega
     subst this; simp [hl.1, hl.2]
 short := fun j hj _ => by
   have hj : j < (m.2.2.2.2.2.1 ++ [(text, ())]).length := hj; show ByteArray.size (m.2.2.2.2.2.1 ++ [(text, ())])[j].1 ≤ 60
   by_cases h : j < m.2.2.2.2.2.1.length
   · rw [List.getElem_append_left h]; exact hm.short j h h
   · have : j = m.2.2.2.2.2.1.length := by simp at hj; omega
     subst this; simpa using ht
 round := hm.round
 seen := hm.seen
 line := hm.line
 heard := hm.heard
 last := hm.last }
theorem Gc {f : db} : {xs : aI} → (∀ x ∈ xs, x.1 < f.1) → iX xs f = xs ++ [f]
 | [], _ => rfl
 | x :: xs, h => by
   have h1 := h x List.mem_cons_self; have ih := Gc (f := f) (xs := xs) fun y hy => h y (List.mem_cons_of_mem _ hy)
   unfold iX; rw [if_pos h1, ih]; rfl
theorem BL : (fs : aI) → {xs : aI} → (∀ f ∈ fs, ∀ x ∈ xs, x.1 < f.1) → fs.Pairwise (fun a b => a.1 < b.1) → bc xs fs = xs ++ fs
 | [], xs, _, _ => (List.append_nil xs).symm
 | f :: fs, xs, h, hp => by
   rw [List.pairwise_cons] at hp; show bc (iX xs f) fs = _; rw [Gc (h f List.mem_cons_self), BL fs (fun g hg x hx => ?_) hp.2, List.append_assoc]
   · rfl
   · rcases List.mem_append.1 hx with hx | hx
     · exact h g (List.mem_cons_of_mem _ hg) x hx
     · rw [List.mem_singleton] at hx; subst hx; exact hp.1 g hg
theorem sK {c2 d : Int} {lv : dn} {tx : List (ByteArray × Unit)} {m k : Nat} (hk : k < (cP c2 d lv tx m).length) : (cP c2 d lv tx m)[k] = uV c2 d lv tx k := by
 simp [cP]
theorem sL {c2 d : Int} {lv : dn} {tx : List (ByteArray × Unit)} {m : Nat} {f : db} (hf : f ∈ cP c2 d lv tx m) : ∃ k, k < m ∧ f = uV c2 d lv tx k := by
 obtain ⟨k, hk, rfl⟩ := List.mem_iff_getElem.1 hf; rw [lG] at hk; exact ⟨k, hk, sK _⟩
theorem Cn {c2 d : Int} {lv : dn} {tx : List (ByteArray × Unit)} (m : Nat) : (cP c2 d lv tx m).Pairwise (fun a b => a.1 < b.1) := by
 rw [List.pairwise_iff_getElem]; intro i j hi hj N8; rw [sK, sK]; show c2 + ((i + 1 : Nat) : Int) < c2 + ((j + 1 : Nat) : Int); omega
def KD (m : ee) (v : Int) : ee := (m.1, m.2.1, m.2.2.1, m.2.2.2.1, m.2.2.2.2.1, m.2.2.2.2.2.1, m.2.2.2.2.2.2.1, m.2.2.2.2.2.2.2.1, m.2.2.2.2.2.2.2.2.1, v, m.2.2.2.2.2.2.2.2.2.2)
theorem Ps {m : ee} (hm : sJ m) : ∃ (k : Nat) (n : ee), n = KD m (m.2.2.2.2.2.2.2.2.2.1 + ((k : Nat) : Int)) ∧ yy m.1 m.2.1 m.2.2.1 m.2.2.2.1 m.2.2.2.2.1 m.2.2.2.2.2.1 m.2.2.2.2.2.2.1 m.2.2.2.2.2.2.2.1 m.2.2.2.2.2.2.2.2.1 m.2.2.2.2.2.2.2.2.2.1 m.2.2.2.2.2.2.2.2.2.2.1 m.2.2.2.2.2.2.2.2.2.2.2.1 m.2.2.2.2.2.2.2.2.2.2.2.2.1 m.2.2.2.2.2.2.2.2.2.2.2.2.2.1 m.2.2.2.2.2.2.2.2.2.2.2.2.2.2.1 m.2.2.2.2.2.2.2.2.2.2.2.2.2.2.2.1 = some (n.1, n.2.1, n.2.2.1, n.2.2.2.1, n.2.2.2.2.1, n.2.2.2.2.2.1, n.2.2.2.2.2.2.1, n.2.2.2.2.2.2.2.1, n.2.2.2.2.2.2.2.2.1, n.2.2.2.2.2.2.2.2.2.1, n.2.2.2.2.2.2.2.2.2.2.1, n.2.2.2.2.2.2.2.2.2.2.2.1, n.2.2.2.2.2.2.2.2.2.2.2.2.1, n.2.2.2.2.2.2.2.2.2.2.2.2.2.1, n.2.2.2.2.2.2.2.2.2.2.2.2.2.2.1, n.2.2.2.2.2.2.2.2.2.2.2.2.2.2.2.1, jz m.2.2.2.1 m.2.2.2.2.2.2.2.2.2.1 k, ()) ∧ qS m.1 m.2.1 m.2.2.1 m.2.2.2.1 m.2.2.2.2.1 m.2.2.2.2.2.1 m.2.2.2.2.2.2.1 m.2.2.2.2.2.2.2.1 m.2.2.2.2.2.2.2.2.1 m.2.2.2.2.2.2.2.2.2.1 m.2.2.2.2.2.2.2.2.2.2.1 m.2.2.2.2.2.2.2.2.2.2.2.1 m.2.2.2.2.2.2.2.2.2.2.2.2.1 m.2.2.2.2.2.2.2.2.2.2.2.2.2.1 m.2.2.2.2.2.2.2.2.2.2.2.2.2.2.1 m.2.2.2.2.2.2.2.2.2.2.2.2.2.2.2.1 = some (n.1, n.2.1, n.2.2.1, n.2.2.2.1, n.2.2.2.2.1, n.2.2.2.2.2.1, n.2.2.2.2.2.2.1, n.2.2.2.2.2.2.2.1, n.2.2.2.2.2.2.2.2.1, n.2.2.2.2.2.2.2.2.2.1, n.2.2.2.2.2.2.2.2.2.2.1, n.2.2.2.2.2.2.2.2.2.2.2.1, n.2.2.2.2.2.2.2.2.2.2.2.2.1, n.2.2.2.2.2.2.2.2.2.2.2.2.2.1, n.2.2.2.2.2.2.2.2.2.2.2.2.2.2.1, n.2.2.2.2.2.2.2.2.2.2.2.2.2.2.2.1, jz m.2.2.2.1 m.2.2.2.2.2.2.2.2.2.1 k, ()) ∧ sJ n ∧
   m.2.2.2.2.2.2.2.2.2.1 + ((k : Nat) : Int) ≤ ((cS m.2.2.2.1 : Nat) : Int) ∧ (∀ j, j < k → ¬ xV m.2.2.2.1 m.2.2.2.2.2.2.2.2.1 (m.2.2.2.2.2.2.2.2.2.1 + ((j + 1 : Nat) : Int))) ∧ (m.2.2.2.2.2.2.2.2.2.1 + ((k : Nat) : Int) < ((cS m.2.2.2.1 : Nat) : Int) → xV m.2.2.2.1 m.2.2.2.2.2.2.2.2.1 (m.2.2.2.2.2.2.2.2.2.1 + ((k + 1 : Nat) : Int))) := by
 have hw := hm.small; have hb := (pI m (Nat.le_trans hw (by decide))).2.2.2 hm; obtain ⟨k, v, h1, h2, h3, _, h5⟩ := NI m (Nat.le_trans hw (by decide)); subst h3; obtain ⟨g1, g2, g3⟩ := h5 hb; have hh := hm.heard; exact ⟨k, _, rfl, h2, h1, { ring := hm.ring, mem := hm.mem, items := hm.items, texts := hm.texts, Pj := hm.Pj, short := hm.short, round := hm.round, seen := hm.seen, line := hm.line, heard := ⟨by show 0 ≤ m.2.2.2.2.2.2.2.2.2.1 + ((k : Nat) : Int); omega, g1⟩, last := hm.last }, g1, g2, g3⟩
def dY (code : List (Int × Unit)) (at_ : Int) : Prop := 0 ≤ at_ ∧ at_ ≤ ((code.length : Nat) : Int) ∧ code.length ≤ 1048576
theorem zW (y : Int) : 0 ≤ IntKind.i64.wrap ((BitVec.ofInt IntKind.i64.bits y &&& BitVec.ofInt IntKind.i64.bits (255 : Int)).toNat : Int) ∧ IntKind.i64.wrap ((BitVec.ofInt IntKind.i64.bits y &&& BitVec.ofInt IntKind.i64.bits (255 : Int)).toNat : Int) ≤ 255 := by
 have h : (BitVec.ofInt IntKind.i64.bits y &&& BitVec.ofInt IntKind.i64.bits (255 : Int)).toNat ≤ 255 := by
   rw [BitVec.toNat_and]; exact Nat.le_trans Nat.and_le_right (by decide)
 rw [ft (by omega) (by omega)]; omega
def QL (code : List (Int × Unit)) (o : Option (Int × (List (Int × Unit)) × Int × Int × Unit)) (lo hi : Int) : Prop :=
 ∃ v Gd s', o = some (v, code, Gd, s', ()) ∧ lo ≤ v ∧ v < hi ∧ dY code Gd
theorem xX (code : List (Int × Unit)) (at_ pW : Int) (h : dY code at_) : QL code (gi code at_ pW) 0 256 := by
 obtain ⟨h0, h1, h2⟩ := h; unfold gi
 by_cases bQ : at_ < ((List.length code : Nat) : Int)
 · obtain ⟨k, rfl⟩ := Int.eq_ofNat_of_zero_le h0; have hk : k < code.length := by omega
   rw [ah bQ]; simp only [cond_true, aq, aA, List.getElem?_eq_getElem hk, Option.bind_some, aK (show k < 4611686018427387904 by omega)]; exact ⟨_, _, _, rfl, (zW _).1, by have := (zW (IntKind.i64.wrap ((IntKind.i64.wrap ((BitVec.ofInt IntKind.i64.bits (IntKind.i64.wrap ((BitVec.ofInt IntKind.i64.bits (Int.fdiv (IntKind.i64.wrap ((IntKind.i64.wrap (pW * (6364136223846793005 : Int))) + (1442695040888963407 : Int))) (2 ^ (min 33 IntKind.i64.bits))) ^^^ BitVec.ofInt IntKind.i64.bits (Int.fdiv (IntKind.i64.wrap ((IntKind.i64.wrap (pW * (6364136223846793005 : Int))) + (1442695040888963407 : Int))) (2 ^ (min 45 IntKind.i64.bits)))).toNat : Int)) &&& BitVec.ofInt IntKind.i64.bits (255 : Int)).toNat : Int)) + (IntKind.i64.wrap code[k].1)))).2; exact Int.lt_add_one_of_le this, by omega, by omega, h2⟩
 · rw [ai bQ]; exact ⟨_, _, _, rfl, (zW _).1, Int.lt_add_one_of_le (zW _).2, h0, h1, h2⟩
theorem wQ {v n : Int} (hv : 0 ≤ v) (hn : 0 < n) : 0 ≤ Int.tmod v n ∧ Int.tmod v n < n := by
 obtain ⟨a, rfl⟩ := Int.eq_ofNat_of_zero_le hv; obtain ⟨b, rfl⟩ := Int.eq_ofNat_of_zero_le (Int.le_of_lt hn); have : Int.tmod ((a : Nat) : Int) ((b : Nat) : Int) = ((a % b : Nat) : Int) := rfl; rw [this]; have := Nat.mod_lt a (show 0 < b by omega); omega
theorem mU (code : List (Int × Unit)) (at_ pW n : Int) (h : dY code at_) (hn : 0 < n) : QL code (bf code at_ pW n) 0 n := by
 unfold bf; rw [ai (show ¬ n ≤ 0 by omega), ai (show ¬ n = 0 by omega)]
 by_cases XS : n ≤ 256
 · obtain ⟨v, a1, s1, e1, v1, v2, d1⟩ := xX code at_ pW h; rw [ah XS]; simp only [cond_false, cond_true, e1, Option.bind_some]; exact ⟨_, _, _, rfl, (wQ v1 hn).1, (wQ v1 hn).2, d1⟩
 · obtain ⟨v, a1, s1, e1, v1, v2, d1⟩ := xX code at_ pW h; obtain ⟨w, a2, s2, e2, w1, w2, d2⟩ := xX code a1 s1 d1; obtain ⟨x, a3, s3, e3, x1, x2, d3⟩ := xX code a2 s2 d2; obtain ⟨y, a4, s4, e4, y1, y2, d4⟩ := xX code a3 s3 d3; rw [ai XS]; simp only [cond_false, e1, e2, e3, e4, Option.bind_some]; have hw : IntKind.i64.wrap ((IntKind.i64.wrap ((IntKind.i64.wrap ((IntKind.i64.wrap (v * (16777216 : Int))) + (IntKind.i64.wrap (w * (65536 : Int))))) + (IntKind.i64.wrap (x * (256 : Int))))) + y) = v * 16777216 + w * 65536 + x * 256 + y := by
     rw [ft (show -9223372036854775808 ≤ v * (16777216 : Int) by omega) (by omega), ft (show -9223372036854775808 ≤ w * (65536 : Int) by omega) (by omega), ft (show -9223372036854775808 ≤ x * (256 : Int) by omega) (by omega),
       ft (show -9223372036854775808 ≤ v * (16777216 : Int) + w * 65536 by omega) (by omega), ft (show -9223372036854775808 ≤ v * (16777216 : Int) + w * 65536 + x * 256 by omega) (by omega), ft (by omega) (by omega)]
   rw [hw]; have hr := wQ (v := v * 16777216 + w * 65536 + x * 256 + y) (by omega) hn; exact ⟨_, _, _, rfl, hr.1, hr.2, d4⟩
theorem Eh (code : List (Int × Unit)) (at_ pW n : Int) (h : dY code at_) (hn : 0 < n) : ∃ b Gd s', ie code at_ pW n = some (b, code, Gd, s', ()) ∧ dY code Gd := by
 obtain ⟨v, a1, s1, e1, v1, v2, d1⟩ := mU code at_ pW n h hn; unfold ie; simp only [e1, Option.bind_some]; exact ⟨_, _, _, rfl, d1⟩
def Ud {B : Type} (code : List (Int × Unit)) : Sum ((List (Int × Unit)) × Int × Unit) B → Prop
 | .inl y => y.1 = code
 | .inr _ => False
theorem Ue (code : List (Int × Unit)) (h : code.length ≤ 1048576) : ∃ s', mG code = some (code, (0 : Int), s', ()) := by
 unfold mG; obtain ⟨e, he, hq⟩ := eo (round := jr) (x := (code, IntKind.i64.wrap ((27101 : Int) + ((List.length code : Nat) : Int)), ((0 : Nat) : Int), ())) code.length (fun k x => ∃ s, x = (code, s, ((k : Nat) : Int), ())) (Ud code) (by
   rintro x ⟨s, rfl⟩
   exact ⟨.inl (code, s, ()), by simp only [jr, oZ, aF, cond_false], rfl⟩) (by
   rintro k x hk ⟨s, rfl⟩
   simp only [jr, oZ, az hk, aq, cond_true, aA, List.getElem?_eq_getElem hk, Option.bind_some, aK (show k < 4611686018427387904 by omega)]
   cases decide (((k : Nat) : Int) < (4000 : Int))
   · exact .inl ⟨.inl (code, s, ()), rfl, rfl⟩
   · exact .inr ⟨_, rfl, _, rfl⟩) ⟨_, rfl⟩
 rw [show ((0 : Nat) : Int) = (0 : Int) from rfl] at he; rw [he]
 cases e with
 | inr e => exact hq.elim
 | inl e =>
   have hq : e.1 = code := hq; exact ⟨e.2.1, by rw [← hq]; rfl⟩
theorem Pt (code : List (Int × Unit)) (at_ pW : Int) (l : List (Int × Unit)) (h : dY code at_) (h0 : 0 < l.length) : ∃ v Gd s', eY code at_ pW l = some (v, code, Gd, s', ()) ∧ (v, ()) ∈ l ∧ dY code Gd := by
 obtain ⟨v, a1, s1, e1, v1, v2, d1⟩ := mU code at_ pW ((l.length : Nat) : Int) h (by omega); obtain ⟨k, rfl⟩ := Int.eq_ofNat_of_zero_le v1; have hk : k < l.length := by omega
 unfold eY; simp only [e1, Option.bind_some, aq, cond_true, aA, List.getElem?_eq_getElem hk]; exact ⟨_, _, _, rfl, List.getElem_mem hk, d1⟩
theorem NR (code : List (Int × Unit)) (at_ pW : Int) (l : List (ByteArray × Unit)) (h : dY code at_) (h0 : 0 < l.length) : ∃ v Gd s', n7 code at_ pW l = some (v, code, Gd, s', ()) ∧ (v, ()) ∈ l ∧ dY code Gd := by
 obtain ⟨v, a1, s1, e1, v1, v2, d1⟩ := mU code at_ pW ((l.length : Nat) : Int) h (by omega); obtain ⟨k, rfl⟩ := Int.eq_ofNat_of_zero_le v1; have hk : k < l.length := by omega
 unfold n7; simp only [e1, Option.bind_some, aq, cond_true, aA, List.getElem?_eq_getElem hk]; exact ⟨_, _, _, rfl, List.getElem_mem hk, d1⟩
def nP (xs : List (Int × Unit)) (m : Nat) : Prop := xs.length ≤ m ∧ (∀ j (hj : j < xs.length), 1 ≤ xs[j].1 ∧ xs[j].1 ≤ ((m : Nat) : Int)) ∧ ∀ i j (hi : i < xs.length) (hj : j < xs.length), i < j → xs[i].1 < xs[j].1
theorem nP.snoc {xs : List (Int × Unit)} {m : Nat} (h : nP xs m) : nP (xs ++ [(((m + 1 : Nat) : Int), ())]) (m + 1) := by
 obtain ⟨h1, h2, h3⟩ := h; refine ⟨by simp; omega, fun j hj => ?_, fun i j hi hj N8 => ?_⟩
 · by_cases hx : j < xs.length
   · rw [List.getElem_append_left hx]; have := h2 j hx; omega
   · have : j = xs.length := by simp at hj; omega
     subst this; simp; omega
 · by_cases hx : j < xs.length
   · rw [List.getElem_append_left hx, List.getElem_append_left (by omega)]; exact h3 i j (by omega) hx N8
   · have hj' : j = xs.length := by simp at hj; omega
     subst hj'; have Oi : i < xs.length := N8; rw [List.getElem_append_left Oi]; have := h2 i Oi; simp; omega
theorem nP.up {xs : List (Int × Unit)} {m : Nat} (h : nP xs m) : nP xs (m + 1) :=
 ⟨by have := h.1; omega, fun j hj => by have := h.2.1 j hj; omega, h.2.2⟩
structure Ge (c : Int) (xs : List (Int × Unit)) : Prop where
 xJ : 1 ≤ c
 id2 : c ≤ 9
 some_ : 1 ≤ xs.length
 rising : nP xs 5
theorem Ge.len {c : Int} {xs : List (Int × Unit)} (h : Ge c xs) : xs.length ≤ 5 := h.rising.1
def NS {B : Type} (code : List (Int × Unit)) (c : Int) : Sum ((List (Int × Unit)) × Int × Int × Int × (List (Int × Unit)) × Int × (List (Int × Unit)) × Unit) B → Prop
 | .inl y => y.1 = code ∧ dY code y.2.1 ∧ y.2.2.2.2.2.1 = c ∧ nP y.2.2.2.2.2.2.1 4
 | .inr _ => False
theorem Ii (code : List (Int × Unit)) (at_ pW : Int) (h : dY code at_) : ∃ c xs Gd s', n5 code at_ pW = some (c, xs, code, Gd, s', ()) ∧ Ge c xs ∧ c ≤ 3 ∧ nP xs 4 ∧ dY code Gd := by
 obtain ⟨v, a1, s1, e1, v1, v2, d1⟩ := mU code at_ pW 3 h (by omega); unfold n5; rw [e1]; simp only [Option.bind_some]; have hw : IntKind.i64.wrap ((1 : Int) + v) = 1 + v := ft (by omega) (by omega); rw [hw]; obtain ⟨e, he, hq⟩ := eo (round := fP) (x := (code, a1, s1, (0 : Int), [], 1 + v, [], ((1 : Nat) : Int), ())) 4 (fun k x => ∃ (a s : Int) (m : List (Int × Unit)), x = (code, a, s, (0 : Int), [], 1 + v, m, ((k + 1 : Nat) : Int), ()) ∧ dY code a ∧ nP m k)
   (NS code (1 + v)) (by
   rintro x ⟨a, s, m, rfl, da, rm⟩
   exact ⟨.inl (code, a, s, 0, [], 1 + v, m, ()), by simp only [fP, na, ai (show ¬ ((4 + 1 : Nat) : Int) ≤ 4 by omega), cond_false], rfl, da, rfl, rm⟩) (by
   rintro k x hk ⟨a, s, m, rfl, da, rm⟩
   obtain ⟨b, a2, s2, e2, d2⟩ := Eh code a s 3 da (by omega); have Oo := rm.1; have hs : IntKind.i64.wrap (((k + 1 : Nat) : Int) + (1 : Int)) = ((k + 1 + 1 : Nat) : Int) := by rw [ft] <;> omega
   simp only [fP, na, ah (show ((k + 1 : Nat) : Int) ≤ 4 by omega), cond_true, e2, Option.bind_some, aH (show (List.length m + 1) * 8 ≤ lim by unfold lim; omega), hs]
   cases b
   · exact .inr ⟨_, rfl, a2, s2, m ++ [(((k + 1 : Nat) : Int), ())], rfl, d2, rm.snoc⟩
   · exact .inr ⟨_, rfl, a2, s2, m, rfl, d2, rm.up⟩) ⟨a1, s1, [], rfl, d1, by simp, fun j hj => by simp at hj, fun i j hi => by simp at hi⟩
 have he : aE fP (code, a1, s1, (0 : Int), [], 1 + v, [], (1 : Int), ()) = some e := he; rw [he]
 cases e with
 | inr e => exact hq.elim
 | inl e =>
   obtain ⟨y1, y2, y3, y4, y5, y6, y7, _⟩ := e; obtain ⟨q1, q2, q3, q4⟩ := hq; simp only at q1 q2 q3 q4; subst q1 q3; simp only [iz]; have q5 : nP y7 5 := q4.up
   by_cases h0 : ((List.length y7 : Nat) : Int) = 0
   · rw [ah h0]; have r4 : nP [((2 : Int), ())] 4 := ⟨by simp, fun j hj => by
       have : j = 0 := by simp at hj; omega
       subst this; simp, fun i j hi hj N8 => by simp at hi hj; omega⟩
     exact ⟨_, _, _, _, rfl, ⟨by omega, by omega, by simp, r4.up⟩, by omega, r4, q2⟩
   · rw [ai h0]; exact ⟨_, _, _, _, rfl, ⟨by omega, by omega, by omega, q5⟩, by omega, q4, q2⟩
abbrev acW : Type := Int × Int × (List (Int × Unit)) × aI × (List (Int × Unit)) × (List (ByteArray × Unit)) × Int × Int × Int × Int × Int × Int × Int × Int × Int × (List (Int × Unit)) × Unit
def ow (c : Int) (xs : List (Int × Unit)) (id : Int) : acW := (id, c, xs, [], [], [], 0, 0, 0, 0, 0, 0, 0, 0, 0, [], ())
theorem Ei (c : Int) (xs : List (Int × Unit)) (id : Int) (h : xs.length ≤ 1048576) (hr : ca c xs = some (true, ())) (hm : (id, ()) ∈ xs) : fu id c xs = some (id, c, xs, [], [], [], 0, 0, 0, 0, 0, 0, 0, 0, 0, [], true, ()) := by
 unfold fu; simp only [hr, D7 _ _ h, ah hm, Option.bind_some, Bool.not_true, cond_false, aH (show (0 + xs.length) * 8 ≤ lim by unfold lim; omega), cond_true, List.nil_append]
theorem map_take {α β : Type} (f : α → β) (xs : List α) {k : Nat} (hk : k < xs.length) : (xs.take (k + 1)).map f = (xs.take k).map f ++ [f xs[k]] := by
 rw [List.take_succ_eq_append_getElem hk, List.map_append]; rfl
abbrev sM : Type := Int × Bool × Int × Int × Int × Int × Int × dn × Int × Int × Int × ByteArray × Unit
abbrev XT : Type := List (aI × Unit)
abbrev cG : Type := Int × dn × List ee × List sM × XT × aI × Unit
def xY (w : cG) (k : Nat) (m : ee) : cG := (w.1, w.2.1, w.2.2.1.set k m, w.2.2.2)
def oz (w : cG) (l : List sM) : cG := (w.1, w.2.1, w.2.2.1, l, w.2.2.2.2)
def acX (w : cG) (l : XT) : cG := (w.1, w.2.1, w.2.2.1, w.2.2.2.1, l, w.2.2.2.2.2)
def XU (w : cG) (l : aI) : cG := (w.1, w.2.1, w.2.2.1, w.2.2.2.1, w.2.2.2.2.1, l, ())
theorem Ij (w : cG) (h : w.2.2.1.length ≤ 1048576) (id : Int) : ∃ a, ij w.1 w.2.1 w.2.2.1 w.2.2.2.1 w.2.2.2.2.1 w.2.2.2.2.2.1 id = some (a, w.1, w.2.1, w.2.2.1, w.2.2.2.1, w.2.2.2.2.1, w.2.2.2.2.2.1, ()) ∧ ((a = -1 ∧ ∀ k (hk : k < w.2.2.1.length), (w.2.2.1[k]).1 ≠ id) ∨ ∃ k, ∃ hk : k < w.2.2.1.length, a = ((k : Nat) : Int) ∧ (w.2.2.1[k]).1 = id) := by
 obtain ⟨e, he, hq⟩ := eo (round := iO) (x := (w.1, w.2.1, w.2.2.1, w.2.2.2.1, w.2.2.2.2.1, w.2.2.2.2.2.1, id, ((0 : Nat) : Int), ())) w.2.2.1.length (fun k x => x = (w.1, w.2.1, w.2.2.1, w.2.2.2.1, w.2.2.2.2.1, w.2.2.2.2.2.1, id, ((k : Nat) : Int), ()) ∧ ∀ j (hj : j < w.2.2.1.length), j < k → (w.2.2.1[j]).1 ≠ id)
   (fun e => (e = .inl (w.1, w.2.1, w.2.2.1, w.2.2.2.1, w.2.2.2.2.1, w.2.2.2.2.2.1, ()) ∧ ∀ k (hk : k < w.2.2.1.length), (w.2.2.1[k]).1 ≠ id) ∨ ∃ k, ∃ hk : k < w.2.2.1.length, e = .inr (w.1, w.2.1, w.2.2.1, w.2.2.2.1, w.2.2.2.2.1, w.2.2.2.2.2.1, ((k : Nat) : Int), ()) ∧ (w.2.2.1[k]).1 = id) (by
     rintro x ⟨rfl, g⟩
     exact ⟨_, by simp only [iO, qv, aF, cond_false], .inl ⟨rfl, fun k hk => g k hk hk⟩⟩) (by
     rintro k x hk ⟨rfl, g⟩
     simp only [iO, qv, az hk, aq, cond_true, aA, List.getElem?_eq_getElem hk, Option.bind_some, aK (show k < 4611686018427387904 by omega)]
     by_cases e : (w.2.2.1[k]).1 = id
     · rw [ah e]; exact .inl ⟨_, rfl, .inr ⟨k, hk, rfl, e⟩⟩
     · rw [ai e]; refine .inr ⟨_, rfl, rfl, fun j hj Gq => ?_⟩
       by_cases e2 : j < k
       · exact g j hj e2
       · have : j = k := by omega
         subst this; exact e) ⟨rfl, fun j hj h => by omega⟩
 have he : aE iO (w.1, w.2.1, w.2.2.1, w.2.2.2.1, w.2.2.2.2.1, w.2.2.2.2.2.1, id, (0 : Int), ()) = some e := he; unfold ij; rw [he]; rcases hq with ⟨rfl, g⟩ | ⟨k, hk, rfl, g⟩
 · exact ⟨_, rfl, .inl ⟨rfl, g⟩⟩
 · exact ⟨_, rfl, .inr ⟨k, hk, rfl, g⟩⟩
theorem xZ (w : cG) (h : w.2.2.1.length ≤ 1048576) {k : Nat} (hk : k < w.2.2.1.length) (m : ee) : eF w.1 w.2.1 w.2.2.1 w.2.2.2.1 w.2.2.2.2.1 w.2.2.2.2.2.1 ((k : Nat) : Int) m.1 m.2.1 m.2.2.1 m.2.2.2.1 m.2.2.2.2.1 m.2.2.2.2.2.1 m.2.2.2.2.2.2.1 m.2.2.2.2.2.2.2.1 m.2.2.2.2.2.2.2.2.1 m.2.2.2.2.2.2.2.2.2.1 m.2.2.2.2.2.2.2.2.2.2.1 m.2.2.2.2.2.2.2.2.2.2.2.1 m.2.2.2.2.2.2.2.2.2.2.2.2.1 m.2.2.2.2.2.2.2.2.2.2.2.2.2.1 m.2.2.2.2.2.2.2.2.2.2.2.2.2.2.1 m.2.2.2.2.2.2.2.2.2.2.2.2.2.2.2.1 = some ((xY w k m).1, (xY w k m).2.1, (xY w k m).2.2.1, (xY w k m).2.2.2.1, (xY w k m).2.2.2.2.1, (xY w k m).2.2.2.2.2.1, ()) := by
 unfold eF; simp only [aH (show (0 + w.2.2.1.length) * 208 ≤ lim by unfold lim; omega), aq, aA, List.nil_append, mE hk, List.getElem?_eq_getElem hk, Option.bind_some, cond_true]; rfl
def iu (ms : List ee) (id : Int) (x : db) : List sM := (ms.filter fun m => !decide (m.1 = id)).map fun m => (m.1, false, 0, 0, 0, 0, 0, [], x.1, x.2.1, x.2.2.1, x.2.2.2.1, ())
def gL (ms : List ee) (id : Int) (l : aI) : List sM := l.flatMap (iu ms id)
theorem Ej (ms : List ee) (id : Int) (x : db) {k : Nat} (hk : k < ms.length) : iu (ms.take (k + 1)) id x = iu (ms.take k) id x ++ (bif !decide (ms[k].1 = id) then [(ms[k].1, false, 0, 0, 0, 0, 0, [], x.1, x.2.1, x.2.2.1, x.2.2.2.1, ())] else []) := by
 unfold iu; rw [List.take_succ_eq_append_getElem hk, List.filter_append, List.map_append, List.filter_cons]
 cases decide (ms[k].1 = id) <;> rfl
theorem zB (ms : List ee) (id : Int) (x : db) : (iu ms id x).length ≤ ms.length := by
 unfold iu; rw [List.length_map]; exact List.length_filter_le _ _
theorem Ik (ms : List ee) (id : Int) (l : aI) {k : Nat} (hk : k < l.length) : gL ms id (l.take (k + 1)) = gL ms id (l.take k) ++ iu ms id l[k] := by
 unfold gL; rw [List.take_succ_eq_append_getElem hk, List.flatMap_append]; simp
theorem uW (ms : List ee) (id : Int) (n : Nat) (hn : ms.length ≤ n) : (l : aI) → (gL ms id l).length ≤ n * l.length
 | [] => Nat.zero_le _
 | x :: l => by
   have h1 := zB ms id x; have h2 := uW ms id n hn l; show (iu ms id x ++ gL ms id l).length ≤ n * (l.length + 1); rw [List.length_append, Nat.mul_succ]; omega
theorem Dd {ms : List ee} {id : Int} {l : aI} {f : sM} (h : f ∈ gL ms id l) : ∃ m ∈ ms, ∃ x ∈ l, m.1 ≠ id ∧ f = (m.1, false, 0, 0, 0, 0, 0, [], x.1, x.2.1, x.2.2.1, x.2.2.2.1, ()) := by
 unfold gL iu at h; obtain ⟨x, hx, h⟩ := List.mem_flatMap.1 h; obtain ⟨m, hm, rfl⟩ := List.mem_map.1 h; obtain ⟨hm, hn⟩ := List.mem_filter.1 hm; refine ⟨m, hm, x, hx, fun e => ?_, rfl⟩; rw [ah e] at hn
 cases hn
theorem Gf (w : cG) (id : Int) (l : aI) (h1 : w.2.2.1.length ≤ 5) (h2 : w.2.2.2.1.length ≤ 1073741824) (h3 : l.length ≤ 1048576) : jI w.1 w.2.1 w.2.2.1 w.2.2.2.1 w.2.2.2.2.1 w.2.2.2.2.2.1 id l = some ((oz w (w.2.2.2.1 ++ gL w.2.2.1 id l)).1, (oz w (w.2.2.2.1 ++ gL w.2.2.1 id l)).2.1, (oz w (w.2.2.2.1 ++ gL w.2.2.1 id l)).2.2.1, (oz w (w.2.2.2.1 ++ gL w.2.2.1 id l)).2.2.2.1, (oz w (w.2.2.2.1 ++ gL w.2.2.1 id l)).2.2.2.2.1, (oz w (w.2.2.2.1 ++ gL w.2.2.1 id l)).2.2.2.2.2.1, ()) := by
 have inner : ∀ (fl : List sM) (i : Nat) (hi : i < l.length), fl.length ≤ 2147483648 → aE fa (w.1, w.2.1, w.2.2.1, w.2.2.2.1, w.2.2.2.2.1, w.2.2.2.2.2.1, id, l, fl, ((i : Nat) : Int), (0 : Int), ()) = some (.inl (w.1, w.2.1, w.2.2.1, w.2.2.2.1, w.2.2.2.2.1, w.2.2.2.2.2.1, id, l, fl ++ iu w.2.2.1 id l[i], ((i : Nat) : Int), ())) := by
   intro fl i hi hf; have l1 := ek (round := fa) (e := .inl (w.1, w.2.1, w.2.2.1, w.2.2.2.1, w.2.2.2.2.1, w.2.2.2.2.2.1, id, l, fl ++ iu w.2.2.1 id l[i], ((i : Nat) : Int), ())) w.2.2.1.length (fun k => (w.1, w.2.1, w.2.2.1, w.2.2.2.1, w.2.2.2.2.1, w.2.2.2.2.2.1, id, l, fl ++ iu (w.2.2.1.take k) id l[i], ((i : Nat) : Int), ((k : Nat) : Int), ())) (by
     simp only [fa, nf, aF, cond_false, List.take_length]) (fun k hk => by
     have hb : Nat.ble (((fl ++ iu (w.2.2.1.take k) id l[i]).length + 1) * 120) lim = true := aH (by
       have := zB (w.2.2.1.take k) id l[i]; rw [List.length_take] at this; rw [List.length_append]; unfold lim; omega)
     rw [Ej w.2.2.1 id l[i] hk]; simp only [fa, nf, az hk, aq, cond_true, aA, List.getElem?_eq_getElem hk, List.getElem?_eq_getElem hi, Option.bind_some, aK (show k < 4611686018427387904 by omega), hb]
     cases decide ((w.2.2.1[k]).1 = id)
     · simp only [Bool.not_false, cond_true, List.append_assoc]
     · simp only [Bool.not_true, cond_false, List.append_nil])
   have l1 : aE fa (w.1, w.2.1, w.2.2.1, w.2.2.2.1, w.2.2.2.2.1, w.2.2.2.2.2.1, id, l, fl ++ iu (w.2.2.1.take 0) id l[i], ((i : Nat) : Int), (0 : Int), ()) = _ := l1
   rwa [show iu (w.2.2.1.take 0) id l[i] = [] from rfl, List.append_nil] at l1
 have l2 := ek (round := fR) (e := .inl (w.1, w.2.1, w.2.2.1, w.2.2.2.1, w.2.2.2.2.1, w.2.2.2.2.2.1, w.2.2.2.1 ++ gL w.2.2.1 id l, ())) l.length (fun k => (w.1, w.2.1, w.2.2.1, w.2.2.2.1, w.2.2.2.2.1, w.2.2.2.2.2.1, id, l, w.2.2.2.1 ++ gL w.2.2.1 id (l.take k), ((k : Nat) : Int), ())) (by
   simp only [fR, ng, aF, cond_false, List.take_length]) (fun k hk => by
   have hl := uW w.2.2.1 id 5 h1 (l.take k); rw [List.length_take] at hl; rw [Ik w.2.2.1 id l hk]; simp only [fR, ng, az hk, cond_true, inner _ k hk (show (w.2.2.2.1 ++ gL w.2.2.1 id (l.take k)).length ≤ 2147483648 by rw [List.length_append]; omega), cq, Option.bind_some, aK (show k < 4611686018427387904 by omega), List.append_assoc])
 have l2 : aE fR (w.1, w.2.1, w.2.2.1, w.2.2.2.1, w.2.2.2.2.1, w.2.2.2.2.2.1, id, l, w.2.2.2.1 ++ gL w.2.2.1 id (l.take 0), (0 : Int), ()) = _ := l2; rw [show gL w.2.2.1 id (l.take 0) = [] from rfl, List.append_nil] at l2; unfold jI; simp only [aH (show (0 + w.2.2.2.1.length) * 120 ≤ lim by unfold lim; omega), cond_true, List.nil_append, l2, cq, Option.bind_some]; rfl
theorem yC (a b : Nat) : Int.tmod ((a : Nat) : Int) ((b : Nat) : Int) = ((a % b : Nat) : Int) := rfl
noncomputable def nV (c : Int) (xs : dn) (id : Int) : Int := match bN c xs id with | some x => x.1 | none => 0
theorem Pu (c : Int) (xs : dn) (id : Int) (h : xs.length ≤ 1048576) : bN c xs id = some (nV c xs id, ()) := by
 have key : ∃ b, bN c xs id = some (b, ()) := by
   unfold bN; rw [(qf c xs h).1]
   cases BA c xs
   · exact ⟨0, rfl⟩
   obtain ⟨e, he, _⟩ := eo (round := dR) (x := (id, c, xs, ((0 : Nat) : Int), ())) xs.length (fun k x => x = (id, c, xs, ((k : Nat) : Int), ())) (fun _ => True) (by
       rintro x rfl
       exact ⟨.inl (), by simp only [dR, lx, aF, cond_false], trivial⟩) (by
       rintro k x hk rfl
       have hm : (k + 1) % xs.length < xs.length := Nat.mod_lt _ (by omega); simp only [dR, lx, az hk, aq, cond_true, aA, List.getElem?_eq_getElem hk, Option.bind_some, aK (show k < 4611686018427387904 by omega), yC, List.getElem?_eq_getElem hm, ai (show ¬ ((List.length xs : Nat) : Int) = 0 by omega), cond_false]
       cases decide (xs[k].1 = id)
       · exact .inr ⟨_, rfl, rfl⟩
       · exact .inl ⟨_, rfl, trivial⟩) rfl
   have he : aE dR (id, c, xs, (0 : Int), ()) = some e := he; simp only [Option.bind_some, Bool.not_true, cond_false, he]
   cases e
   · exact ⟨_, rfl⟩
   · exact ⟨_, rfl⟩
 obtain ⟨b, h1⟩ := key; have : nV c xs id = b := by unfold nV; rw [h1]
 rw [this]; exact h1
def kG (to_ : Int) (t : jU) : sM := (to_, true, t.1, t.2.1, t.2.2.1, t.2.2.2.1, t.2.2.2.2.1, t.2.2.2.2.2.1, 0, 0, 0, ByteArray.empty, ())
theorem De (w : cG) (id : Int) (t : jU) (h1 : w.2.1.length ≤ 1048576) (h2 : w.2.2.2.1.length ≤ 2147483648) (h3 : t.2.2.2.2.2.1.length ≤ 1048576) : dM w.1 w.2.1 w.2.2.1 w.2.2.2.1 w.2.2.2.2.1 w.2.2.2.2.2.1 id t.1 t.2.1 t.2.2.1 t.2.2.2.1 t.2.2.2.2.1 t.2.2.2.2.2.1 = some ((oz w (w.2.2.2.1 ++ [kG (nV w.1 w.2.1 id) t])).1, (oz w (w.2.2.2.1 ++ [kG (nV w.1 w.2.1 id) t])).2.1, (oz w (w.2.2.2.1 ++ [kG (nV w.1 w.2.1 id) t])).2.2.1, (oz w (w.2.2.2.1 ++ [kG (nV w.1 w.2.1 id) t])).2.2.2.1, (oz w (w.2.2.2.1 ++ [kG (nV w.1 w.2.1 id) t])).2.2.2.2.1, (oz w (w.2.2.2.1 ++ [kG (nV w.1 w.2.1 id) t])).2.2.2.2.2.1, ()) := by
 unfold dM; simp only [aH (show (0 + w.2.2.2.1.length) * 120 ≤ lim by unfold lim; omega), Pu w.1 w.2.1 id h1, (iq t.1 t.2.1 t.2.2.1 t.2.2.2.1 t.2.2.2.2.1 t.2.2.2.2.2.1 h3).1, Option.bind_some, cond_true, List.nil_append, aH (show (w.2.2.2.1.length + 1) * 120 ≤ lim by unfold lim; omega)]; rfl
def NT (m : ee) : aI := m.2.2.2.1.filter fun x => decide (x.2.1 = m.1)
def mV (m : ee) : jU := (m.2.2.2.2.2.2.2.2.2.2.1, m.2.2.2.2.2.2.2.2.2.2.2.1, m.2.2.2.2.2.2.2.2.2.2.2.2.1, m.2.2.2.2.2.2.2.2.2.2.2.2.2.1, m.2.2.2.2.2.2.2.2.2.2.2.2.2.2.1, m.2.2.2.2.2.2.2.2.2.2.2.2.2.2.2.1, ())
noncomputable def uD (w : cG) (m : ee) : cG := oz w (w.2.2.2.1 ++ [kG (nV w.1 w.2.1 m.1) (mV m)] ++ gL w.2.2.1 m.1 (NT m))
theorem KE (w : cG) {k : Nat} (hk : k < w.2.2.1.length) (h1 : w.2.2.1.length ≤ 5) (h2 : w.2.2.2.1.length ≤ 1073741823) (h3 : w.2.1.length ≤ 1048576) (h4 : (w.2.2.1[k]).2.2.2.1.length ≤ 1048576) (h5 : (w.2.2.1[k]).2.2.2.2.2.2.2.2.2.2.2.2.2.2.2.1.length ≤ 1048576) :
   iP w.1 w.2.1 w.2.2.1 w.2.2.2.1 w.2.2.2.2.1 w.2.2.2.2.2.1 ((k : Nat) : Int) = (bif pH (mV w.2.2.1[k]) then some ((1 : Int), w.1, w.2.1, w.2.2.1, w.2.2.2.1, w.2.2.2.2.1, w.2.2.2.2.2.1, ()) else some ((0 : Int), (uD w w.2.2.1[k]).1, (uD w w.2.2.1[k]).2.1, (uD w w.2.2.1[k]).2.2.1, (uD w w.2.2.1[k]).2.2.2.1, (uD w w.2.2.1[k]).2.2.2.2.1, (uD w w.2.2.1[k]).2.2.2.2.2.1, ())) := by
 generalize hm : w.2.2.1[k] = m at *; have l1 := ek (round := fG) (e := .inl (w.1, w.2.1, w.2.2.1, w.2.2.2.1, w.2.2.2.2.1, w.2.2.2.2.2.1, m.1, m.2.1, m.2.2.1, m.2.2.2.1, m.2.2.2.2.1, m.2.2.2.2.2.1, m.2.2.2.2.2.2.1, m.2.2.2.2.2.2.2.1, m.2.2.2.2.2.2.2.2.1, m.2.2.2.2.2.2.2.2.2.1, m.2.2.2.2.2.2.2.2.2.2.1, m.2.2.2.2.2.2.2.2.2.2.2.1, m.2.2.2.2.2.2.2.2.2.2.2.2.1, m.2.2.2.2.2.2.2.2.2.2.2.2.2.1, m.2.2.2.2.2.2.2.2.2.2.2.2.2.2.1, m.2.2.2.2.2.2.2.2.2.2.2.2.2.2.2.1, NT m, ())) m.2.2.2.1.length (fun i => (w.1, w.2.1, w.2.2.1, w.2.2.2.1, w.2.2.2.2.1, w.2.2.2.2.2.1, m.1, m.2.1, m.2.2.1, m.2.2.2.1, m.2.2.2.2.1, m.2.2.2.2.2.1, m.2.2.2.2.2.2.1, m.2.2.2.2.2.2.2.1, m.2.2.2.2.2.2.2.2.1, m.2.2.2.2.2.2.2.2.2.1, m.2.2.2.2.2.2.2.2.2.2.1, m.2.2.2.2.2.2.2.2.2.2.2.1, m.2.2.2.2.2.2.2.2.2.2.2.2.1, m.2.2.2.2.2.2.2.2.2.2.2.2.2.1, m.2.2.2.2.2.2.2.2.2.2.2.2.2.2.1, m.2.2.2.2.2.2.2.2.2.2.2.2.2.2.2.1, (m.2.2.2.1.take i).filter (fun x => decide (x.2.1 = m.1)), ((i : Nat) : Int), ())) (by
   simp only [fG, mc, aF, cond_false, List.take_length]; rfl) (fun i hi => by
   have hb : Nat.ble ((((m.2.2.2.1.take i).filter (fun x => decide (x.2.1 = m.1))).length + 1) * 40) lim = true := aH (by
     have := List.length_filter_le (fun x : db => decide (x.2.1 = m.1)) (m.2.2.2.1.take i); rw [List.length_take] at this; unfold lim; omega)
   rw [List.take_succ_eq_append_getElem hi, List.filter_append, List.filter_cons]; simp only [fG, mc, az hi, aq, cond_true, aA, List.getElem?_eq_getElem hi, Option.bind_some, aK (show i < 4611686018427387904 by omega), hb]
   by_cases e : (m.2.2.2.1[i]).2.1 = m.1
   · rw [ah e]; rfl
   · rw [ai e]; simp only [cond_false]; rw [if_neg (by decide)]; simp)
 have l1 : aE fG (w.1, w.2.1, w.2.2.1, w.2.2.2.1, w.2.2.2.2.1, w.2.2.2.2.2.1, m.1, m.2.1, m.2.2.1, m.2.2.2.1, m.2.2.2.2.1, m.2.2.2.2.2.1, m.2.2.2.2.2.2.1, m.2.2.2.2.2.2.2.1, m.2.2.2.2.2.2.2.2.1, m.2.2.2.2.2.2.2.2.2.1, m.2.2.2.2.2.2.2.2.2.2.1, m.2.2.2.2.2.2.2.2.2.2.2.1, m.2.2.2.2.2.2.2.2.2.2.2.2.1, m.2.2.2.2.2.2.2.2.2.2.2.2.2.1, m.2.2.2.2.2.2.2.2.2.2.2.2.2.2.1, m.2.2.2.2.2.2.2.2.2.2.2.2.2.2.2.1, [], (0 : Int), ()) = _ := l1; unfold iP; have hb : dL m.2.2.2.2.2.2.2.2.2.2.1 m.2.2.2.2.2.2.2.2.2.2.2.1 m.2.2.2.2.2.2.2.2.2.2.2.2.1 m.2.2.2.2.2.2.2.2.2.2.2.2.2.1 m.2.2.2.2.2.2.2.2.2.2.2.2.2.2.1 m.2.2.2.2.2.2.2.2.2.2.2.2.2.2.2.1 = some (pH (mV m), ()) := (uw (mV m)).1; simp only [aq, cond_true, aA, List.getElem?_eq_getElem hk, hm, Option.bind_some, hb]
 cases pH (mV m)
 · have t1 : dM w.1 w.2.1 w.2.2.1 w.2.2.2.1 w.2.2.2.2.1 w.2.2.2.2.2.1 m.1 m.2.2.2.2.2.2.2.2.2.2.1 m.2.2.2.2.2.2.2.2.2.2.2.1 m.2.2.2.2.2.2.2.2.2.2.2.2.1 m.2.2.2.2.2.2.2.2.2.2.2.2.2.1 m.2.2.2.2.2.2.2.2.2.2.2.2.2.2.1 m.2.2.2.2.2.2.2.2.2.2.2.2.2.2.2.1 = _ := De w m.1 (mV m) h3 (by omega) h5; have t2 := Gf (oz w (w.2.2.2.1 ++ [kG (nV w.1 w.2.1 m.1) (mV m)])) m.1 (NT m) h1 (by show (w.2.2.2.1 ++ [_]).length ≤ _; rw [List.length_append, List.length_singleton]; omega) (Nat.le_trans (List.length_filter_le _ _) h4); simp only [cond_false, l1, cq, t1, Option.bind_some, t2]; rfl
 · rfl
structure NU (f : sM) : Prop where
 tok : f.2.1 = true → zK (f.2.2.1, f.2.2.2.1, f.2.2.2.2.1, f.2.2.2.2.2.1, f.2.2.2.2.2.2.1, f.2.2.2.2.2.2.2.1, ())
 item : f.2.1 = false → kc (f.2.2.2.2.2.2.2.2.1, f.2.2.2.2.2.2.2.2.2.1, f.2.2.2.2.2.2.2.2.2.2.1, f.2.2.2.2.2.2.2.2.2.2.2.1, ())
 Ef : f.2.2.2.2.2.2.2.1.length ≤ 20
structure eD (n : Nat) (c : Int) (ms : dn) (w : cG) : Prop where
 ring : pG c ms
 self : w.1 = c ∧ w.2.1 = ms
 len : w.2.2.1.length = ms.length
 ids : ∀ k (hk : k < w.2.2.1.length) (hm : k < ms.length), (w.2.2.1[k]).1 = ms[k].1
 Co : ∀ m ∈ w.2.2.1, sJ m ∧ m.2.1 = c ∧ m.2.2.1 = ms
 yD : ∀ f ∈ w.2.2.2.1, NU f
 Ef : w.2.2.2.1.length ≤ 400 * (n + 1)
 heard : w.2.2.2.2.1.length = ms.length
 list : ∀ h ∈ w.2.2.2.2.1, h.1.length ≤ 60 * n
 said : (∀ x ∈ w.2.2.2.2.2.1, kc x) ∧ w.2.2.2.2.2.1.length ≤ 63 * n
theorem eD.up {n n' : Nat} {c : Int} {ms : dn} {w : cG} (h : eD n c ms w) (hn : n ≤ n') : eD n' c ms w :=
 { h with Ef := by have := h.Ef; omega, list := fun x hx => by have := h.list x hx; omega, said := ⟨h.said.1, by have := h.said.2; omega⟩ }
theorem eD.pK {n : Nat} {c : Int} {ms : dn} {w : cG} (h : eD n c ms w) {k : Nat} (hk : k < w.2.2.1.length) {m : ee} (hm : sJ m) (h1 : m.1 = (w.2.2.1[k]).1) (h2 : m.2.1 = (w.2.2.1[k]).2.1) (h3 : m.2.2.1 = (w.2.2.1[k]).2.2.1) : eD n c ms (xY w k m) :=
 { h with
   len := by show (w.2.2.1.set k m).length = _; rw [List.length_set]; exact h.len
   ids := fun j hj Ak => by
     have hj : j < (w.2.2.1.set k m).length := hj; show ((w.2.2.1.set k m)[j]).1 = _; rw [List.getElem_set]; rw [List.length_set] at hj
     split
     · rename_i e; subst e; rw [h1]; exact h.ids k hk Ak
     · exact h.ids j hj Ak
   Co := fun x hx => by
     have hx : x ∈ w.2.2.1.set k m := hx; rcases List.mem_or_eq_of_mem_set hx with hx | rfl
     · exact h.Co x hx
     · have := h.Co _ (List.getElem_mem hk); exact ⟨hm, h2.trans this.2.1, h3.trans this.2.2⟩ }
theorem eD.Ek {n : Nat} {c : Int} {ms : dn} {w : cG} (h : eD n c ms w) {l : List sM} (h1 : ∀ f ∈ l, NU f) (h2 : l.length ≤ 400 * (n + 1)) : eD n c ms (oz w l) := { h with yD := h1, Ef := h2 }
theorem BM {a : Int} {t : jU} (h : zK t) : NU (kG a t) := ⟨fun _ => h, fun e => (by cases e), h.2.2.2.2.2.1⟩
theorem Df {ms : List ee} {id : Int} {l : aI} (h : ∀ x ∈ l, kc x) : ∀ f ∈ gL ms id l, NU f := by
 intro f hf; obtain ⟨m, _, x, hx, _, rfl⟩ := Dd hf; exact ⟨fun e => (by cases e), fun _ => h x hx, Nat.zero_le _⟩
theorem eD.Il {n : Nat} {c : Int} {ms : dn} {w : cG} (h : eD n c ms w) : w.2.2.1.length ≤ 5 ∧ w.2.1.length ≤ 5 ∧ ms.length ≤ 5 := by
 have := h.ring.2.1.2; have := h.len; rw [h.self.2]; omega
theorem Im {m : ee} (hm : sJ m) {x : db} (hx : kc x) : sJ (oH m (iX m.2.2.2.1 x)) := by
 have hi := (cf _ hm.items).1; have hp := BB hm.items hx; have hi2 := (cf _ hp).1; have ha : cS m.2.2.2.1 ≤ cS (iX m.2.2.2.1 x) := Gb (by omega) (by omega) fun r hr => ⟨r, yB hr, rfl⟩
 exact { hm with
   items := hp
   line := ⟨hm.line.1, by have := hm.line.2; show m.2.2.2.2.2.2.2.2.1 ≤ ((cS (iX m.2.2.2.1 x) : Nat) : Int); omega⟩
   heard := ⟨hm.heard.1, by have := hm.heard.2; show m.2.2.2.2.2.2.2.2.2.1 ≤ ((cS (iX m.2.2.2.1 x) : Nat) : Int); omega⟩ }
theorem KG {m : ee} (hm : sJ m) {x : db} (hx : kc x) : BC m x = oH m (iX m.2.2.2.1 x) := by
 have hi := (cf _ hm.items).1; unfold BC NH; rw [(pI m (Nat.le_trans hm.small (by decide))).2.2.2 hm, (uu _ (by omega)).2.2.2 hm.items, (zS x).2.2.2 hx]; rfl
theorem Gg {ms : dn} (h : H6 ms ms.length) {i j : Nat} (hj : j < ms.length) (N8 : i < j) : (ms[i]'(by omega)).1 < ms[j].1 := by
 have key : ∀ (d i : Nat) (hi : i + d + 1 < ms.length), ms[i].1 < ms[i + d + 1].1 := by
   intro d
   induction d with
   | zero => intro i hi; exact (h (i + 1) hi hi).2 (by omega)
   | succ d ih =>
     intro i hi; have h1 := ih i (by omega); have h2 := (h (i + (d + 1) + 1) hi hi).2 (by omega); have e : i + (d + 1) + 1 - 1 = i + d + 1 := by omega
     simp only [e] at h2; omega
 have := key (j - i - 1) i (by omega); simpa [show i + (j - i - 1) + 1 = j by omega] using this
theorem I7 {ms : dn} (h : H6 ms ms.length) {i j : Nat} (hi : i < ms.length) (hj : j < ms.length) (e : ms[i].1 = ms[j].1) : i = j := by
 by_cases h1 : i < j
 · have := Gg h hj h1; omega
 by_cases h2 : j < i
 · have := Gg h hi h2; omega
 omega
theorem NV {c : Int} {ms : dn} (hr : pG c ms) {k : Nat} (hk : k < ms.length) (hm : (k + 1) % ms.length < ms.length) : nV c ms ms[k].1 = ms[(k + 1) % ms.length].1 := by
 have hl := hr.2.1.2; have h := (qf c ms (by omega)).1; rw [(qf c ms (by omega)).2.2.2 hr] at h; obtain ⟨e, he, hq⟩ := eo (round := dR) (x := (ms[k].1, c, ms, ((0 : Nat) : Int), ())) ms.length (fun j x => x = (ms[k].1, c, ms, ((j : Nat) : Int), ()) ∧ j ≤ k) (fun e => e = .inr (ms[(k + 1) % ms.length].1, ())) (by
     rintro x ⟨_, g⟩
     omega) (by
     rintro j x hj ⟨rfl, g⟩
     simp only [dR, lx, az hj, aq, cond_true, aA, List.getElem?_eq_getElem hj, Option.bind_some, aK (show j < 4611686018427387904 by omega), yC, ai (show ¬ ((List.length ms : Nat) : Int) = 0 by omega), cond_false]
     by_cases e : ms[j].1 = ms[k].1
     · have := I7 hr.2.2 hj hk e; subst this; rw [ah e, List.getElem?_eq_getElem hm]; exact .inl ⟨_, rfl, rfl⟩
     · rw [ai e]; refine .inr ⟨_, rfl, rfl, ?_⟩
       by_cases e2 : j = k
       · subst e2; exact absurd rfl e
       · omega) ⟨rfl, Nat.zero_le _⟩
 have he : aE dR (ms[k].1, c, ms, (0 : Int), ()) = some e := he; subst hq; unfold nV bN; rw [h]; simp only [Option.bind_some, Bool.not_true, cond_false, he, cq]
structure Cp (R : Nat) (S : Int) (ms : dn) (f : sM) : Prop where
 tok : f.2.1 = true → ∃ r : Nat, 1 ≤ r ∧ r ≤ R ∧ f.2.2.2.1 = ((r : Nat) : Int) ∧ (∃ x, ms[(r - 1) % ms.length]? = some x ∧ f.1 = x.1) ∧ (r = R → f.2.2.2.2.1 = S)
 item : f.2.1 = false → f.2.2.2.2.2.2.2.2.1 ≤ S
structure uE (R : Nat) (S : Int) (len k : Nat) (m : ee) : Prop where
 items : ∀ x ∈ m.2.2.2.1, x.1 ≤ S
 last : ∃ q : Nat, m.2.2.2.2.2.2.1 = ((q : Nat) : Int) ∧ q < R ∧ (∀ r, 1 ≤ r → r < R → (r - 1) % len = k → r ≤ q) ∧ (Blank (mV m) ∨ (1 ≤ q ∧ (q - 1) % len = k ∧ (mV m).2.1 = ((q + 1 : Nat) : Int) ∧ (q + 1 = R → (mV m).2.2.1 = S)))
structure mW (R : Nat) (S : Int) (ms : dn) (w : cG) : Prop where
 yD : ∀ f ∈ w.2.2.2.1, Cp R S ms f
 pK : ∀ k (hk : k < w.2.2.1.length), uE R S ms.length k w.2.2.1[k]
 said : ∀ x ∈ w.2.2.2.2.2.1, x.1 ≤ S
theorem mW.NW {R : Nat} {S : Int} {ms : dn} {w : cG} (h : mW R S ms w) {k : Nat} (hk : k < w.2.2.1.length) {m : ee} (hm : uE R S ms.length k m) : mW R S ms (xY w k m) :=
 { yD := h.yD
   said := h.said
   pK := fun j hj => by
     have hj : j < (w.2.2.1.set k m).length := hj; show uE R S ms.length j (w.2.2.1.set k m)[j]; rw [List.getElem_set]; rw [List.length_set] at hj
     split
     · rename_i e; subst e; exact hm
     · exact h.pK j hj }
theorem mW.Ek {R : Nat} {S : Int} {ms : dn} {w : cG} (h : mW R S ms w) {l : List sM} (hl : ∀ f ∈ l, Cp R S ms f) : mW R S ms (oz w l) := { yD := hl, pK := h.pK, said := h.said }
theorem uE.same {R : Nat} {S : Int} {len k : Nat} {m m' : ee} (h : uE R S len k m) (h1 : m'.2.2.2.1 = m.2.2.2.1) (h2 : m'.2.2.2.2.2.2.1 = m.2.2.2.2.2.2.1) (h3 : mV m' = mV m) : uE R S len k m' := ⟨h1 ▸ h.items, by rw [h2, h3]; exact h.last⟩
theorem QM {R : Nat} {S : Int} {ms : dn} {mt : List ee} {id : Int} {l : aI} (h : ∀ x ∈ l, x.1 ≤ S) : ∀ f ∈ gL mt id l, Cp R S ms f := by
 intro f hf; obtain ⟨m, _, x, hx, _, rfl⟩ := Dd hf; exact ⟨fun e => (by cases e), fun _ => h x hx⟩
theorem NX {n q k : Nat} (h1 : 1 ≤ q) (h : (q - 1) % n = k) : (q + 1 - 1) % n = (k + 1) % n := by
 have : q = (q - 1) + 1 := by omega
 rw [Nat.add_sub_cancel, ← h, Nat.mod_add_mod, ← this]
theorem XW {R : Nat} {S : Int} {c : Int} {ms : dn} (hr : pG c ms) {k : Nat} (hk : k < ms.length) {t : jU} {q : Nat} (h1 : 1 ≤ q) (hq : (q - 1) % ms.length = k) (hR : q + 1 ≤ R) (h2 : t.2.1 = ((q + 1 : Nat) : Int)) (h3 : q + 1 = R → t.2.2.1 = S) : Cp R S ms (kG (nV c ms ms[k].1) t) := by
 have hm : (k + 1) % ms.length < ms.length := Nat.mod_lt _ (by omega); refine ⟨fun _ => ⟨q + 1, by omega, hR, h2, ⟨ms[(k + 1) % ms.length], ?_, ?_⟩, h3⟩, fun e => (by cases e)⟩
 · rw [NX h1 hq]; exact List.getElem?_eq_getElem hm
 · exact NV hr hk hm
theorem KH {R : Nat} {S : Int} {n : Nat} {c : Int} {ms : dn} {w : cG} (h : eD n c ms w) (hR : mW R S ms w) {k : Nat} (hk : k < w.2.2.1.length) (hb : ¬ Blank (mV w.2.2.1[k])) : mW R S ms (uD w w.2.2.1[k]) := by
 have rb : k < ms.length := by rw [← h.len]; exact hk
 obtain ⟨q, q1, q2, q3, q4⟩ := (hR.pK k hk).last; refine hR.Ek fun f hf => ?_
 rcases List.mem_append.1 hf with hf | hf
 · rcases List.mem_append.1 hf with hf | hf
   · exact hR.yD f hf
   · rw [List.mem_singleton] at hf; subst hf; rcases q4 with q4 | ⟨g1, g2, g3, g4⟩
     · exact absurd q4 hb
     · rw [h.self.1, h.self.2, h.ids k hk rb]; exact XW h.ring rb g1 g2 (by omega) g3 g4
 · exact QM (fun x hx => (hR.pK k hk).items x (List.mem_filter.1 hx).1) f hf
theorem KI {R : Nat} {S : Int} {len k : Nat} {m : ee} (h : uE R S len k m) {x : db} (hx : x.1 ≤ S) : uE R S len k (oH m (iX m.2.2.2.1 x)) :=
 ⟨fun y hy => by
   have hy : y ∈ iX m.2.2.2.1 x := hy; rcases uA hy with rfl | hy
   · exact hx
   · exact h.items y hy, h.last⟩
theorem Dg {R : Nat} {S : Int} {n : Nat} {c : Int} {ms : dn} {w : cG} (h : eD n c ms w) (hR : mW R S ms w) {f : sM} (hf : Cp R S ms f) (ht : f.2.1 = true) {k : Nat} (hk : k < w.2.2.1.length) (zb : (w.2.2.1[k]).1 = f.1) (hr : (w.2.2.1[k]).2.2.2.2.2.2.1 < f.2.2.2.1) : 1 ≤ R ∧ (R - 1) % ms.length = k ∧ f.2.2.2.1 = ((R : Nat) : Int) ∧ f.2.2.2.2.1 = S := by
 have rb : k < ms.length := by rw [← h.len]; exact hk
 obtain ⟨r, r1, r2, r3, ⟨x, x1, x2⟩, r4⟩ := hf.tok ht; obtain ⟨q, q1, q2, q3, _⟩ := (hR.pK k hk).last; have hm : (r - 1) % ms.length < ms.length := Nat.mod_lt _ (by omega); rw [List.getElem?_eq_getElem hm] at x1; injection x1 with x1; have hi : (r - 1) % ms.length = k := I7 h.ring.2.2 hm rb (by rw [x1, ← x2, ← zb, h.ids k hk rb])
 by_cases e : r < R
 · have := q3 r r1 e hi; omega
 · have : r = R := by omega
   subst this; exact ⟨r1, hi, r3, r4 rfl⟩
def El (ms : dn) (w w' : cG) : Prop := ∀ R S, mW R S ms w → ∃ R' S', mW R' S' ms w'
theorem Cp.up {R : Nat} {S : Int} {ms : dn} {f : sM} (h : Cp R S ms f) {j : Nat} : Cp (R + 1) (S + ((j : Nat) : Int)) ms f :=
 ⟨fun e => by
   obtain ⟨r, r1, r2, r3, r4, _⟩ := h.tok e; exact ⟨r, r1, by omega, r3, r4, fun h => by omega⟩, fun e => by have := h.item e; omega⟩
end Go.TM

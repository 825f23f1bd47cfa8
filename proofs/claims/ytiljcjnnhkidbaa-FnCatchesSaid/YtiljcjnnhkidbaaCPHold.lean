/- What a member does that holds a token. -/
import Derived.Test.YtiljcjnnhkidbaaCPHoldL
set_option linter.unusedSimpArgs false
set_option linter.unusedVariables false
namespace Go.TM
open Go
theorem MatQ.id {m : MatR} (h : MatQ m) : 1 ≤ m.1 ∧ m.1 ≤ 5 := by
 obtain ⟨k, hk, e⟩ := List.mem_iff_getElem.1 h.mem; have := (h.ring.2.2 k hk hk).1; rw [e] at this; exact this
theorem lack_wants {list : ItemL} {xs : MemL} {ms : List Int} {c c2 : Int} (hx : WantsP c xs xs.length) (hc : c ≤ c2) (hm : ∀ s ∈ ms, 1 ≤ s ∧ s ≤ c2) : WantsP c2 (ofInts (lackL list xs ms)) (ofInts (lackL list xs ms)).length := by
 have hp : (lackL list xs ms).Pairwise (· < ·) := List.Pairwise.sublist (List.take_sublist _ _) (List.Pairwise.filter _ (ints_strict 60)); have hmem : ∀ s ∈ lackL list xs ms, 1 ≤ s ∧ s ≤ c2 := by
   intro s hs; have h1 := List.mem_of_mem_take hs; have h2 := (List.mem_filter.1 h1).2; unfold lackP at h2; rw [Bool.or_eq_true, Bool.and_eq_true, decide_eq_true_eq, decide_eq_true_eq] at h2; rcases h2 with ⟨_, h2⟩ | h2
   · unfold intsOf at h2; obtain ⟨r, hr, rfl⟩ := List.mem_map.1 h2; obtain ⟨k, hk, rfl⟩ := List.mem_iff_getElem.1 hr; have := hx k hk hk; exact ⟨this.1, by omega⟩
   · exact hm s h2
 intro k hk _; have hk' : k < (lackL list xs ms).length := by rwa [ofInts_len] at hk
 have e : ∀ j (hj : j < (ofInts (lackL list xs ms)).length) (hj' : j < (lackL list xs ms).length), (ofInts (lackL list xs ms))[j].1 = (lackL list xs ms)[j] := by intro j hj hj'; simp [ofInts]
 rw [e k hk hk']; refine ⟨(hmem _ (List.getElem_mem hk')).1, (hmem _ (List.getElem_mem hk')).2, fun h0 => ?_⟩; rw [e (k - 1) (by omega) (by omega)]; exact List.pairwise_iff_getElem.1 hp (k - 1) k (by omega) hk' (by omega)
theorem LevOk.drop {l : MemL} (h : LevOk l l.length) (k : Nat) : LevOk (l.drop k) (l.drop k).length := by
 intro j hj _; rw [List.getElem_drop]; rw [List.length_drop] at hj; exact h (k + j) (by omega) (by omega)
theorem ShortOk.drop {l : List (ByteArray × Unit)} (h : ShortOk l l.length) (k : Nat) : ShortOk (l.drop k) (l.drop k).length := by
 intro j hj _; rw [List.getElem_drop]; rw [List.length_drop] at hj; exact h (k + j) (by omega) (by omega)
structure Held (m : MatR) (t : TokR) (n : MatR) (said : ItemL) (k : Nat) (nx : TokR) : Prop where
 few : k ≤ 3 ∧ k ≤ m.2.2.2.2.2.1.length ∧ t.2.2.1 + ((k : Nat) : Int) ≤ 60
 said : said = giveL t m.2.2.2.1 ++ numItems t.2.2.1 m.1 m.2.2.2.2.1 m.2.2.2.2.2.1 k
 id : n.1 = m.1 ∧ n.2.1 = m.2.1 ∧ n.2.2.1 = m.2.2.1
 items : n.2.2.2.1 = putAll m.2.2.2.1 (numItems t.2.2.1 m.1 m.2.2.2.2.1 m.2.2.2.2.2.1 k)
 words : n.2.2.2.2.1 = m.2.2.2.2.1.drop k ∧ n.2.2.2.2.2.1 = m.2.2.2.2.2.1.drop k
 round : n.2.2.2.2.2.2.1 = t.2.1 ∧ n.2.2.2.2.2.2.2.1 = t.2.2.2.1 ∧ m.2.2.2.2.2.2.2.2.1 ≤ n.2.2.2.2.2.2.2.2.1 ∧ n.2.2.2.2.2.2.2.2.2.1 = m.2.2.2.2.2.2.2.2.2.1
 last : (n.2.2.2.2.2.2.2.2.2.2.1, n.2.2.2.2.2.2.2.2.2.2.2.1, n.2.2.2.2.2.2.2.2.2.2.2.2.1, n.2.2.2.2.2.2.2.2.2.2.2.2.2.1, n.2.2.2.2.2.2.2.2.2.2.2.2.2.2.1, n.2.2.2.2.2.2.2.2.2.2.2.2.2.2.2.1, ()) = nx
 nq : MatQ n
 tq : TokQ nx
 next : nx.1 = t.1 ∧ nx.2.1 = t.2.1 + 1 ∧ nx.2.2.1 = t.2.2.1 + ((k : Nat) : Int)
 most : k = min 3 m.2.2.2.2.2.1.length ∨ t.2.2.1 + ((k : Nat) : Int) = 60
 marks : nx.2.2.2.1 = markA (t.2.2.1 + ((k : Nat) : Int)) (if t.2.2.2.1 = t.2.2.1 ∧ t.2.2.2.2.1 = 0 then t.2.2.1 + ((k : Nat) : Int) else t.2.2.2.1) t.2.2.2.2.1 m.1 ((aruOf n.2.2.2.1 : Nat) : Int) ∧ nx.2.2.2.2.1 = markB (t.2.2.1 + ((k : Nat) : Int)) (if t.2.2.2.1 = t.2.2.1 ∧ t.2.2.2.2.1 = 0 then t.2.2.1 + ((k : Nat) : Int) else t.2.2.2.1) t.2.2.2.2.1 m.1 ((aruOf n.2.2.2.1 : Nat) : Int)
 line : n.2.2.2.2.2.2.2.2.1 = m.2.2.2.2.2.2.2.2.1 ∨ (n.2.2.2.2.2.2.2.2.1 ≤ m.2.2.2.2.2.2.2.1 ∧ n.2.2.2.2.2.2.2.2.1 ≤ t.2.2.2.1 ∧ n.2.2.2.2.2.2.2.2.1 ≤ ((aruOf n.2.2.2.1 : Nat) : Int))
 lacks : ∀ s ∈ intsOf nx.2.2.2.2.2.1, hasB n.2.2.2.1 s = false
theorem hold_ok (m : MatR) (t : TokR) (hm : MatQ m) (ht : TokQ t) (hc : t.1 = m.2.1) (hr1 : m.2.2.2.2.2.2.1 < t.2.1) (hr2 : t.2.1 < 1000000000) :
   ∃ (n : MatR) (said : ItemL) (k : Nat) (nx : TokR), Held m t n said k nx ∧ impl_hold m.1 m.2.1 m.2.2.1 m.2.2.2.1 m.2.2.2.2.1 m.2.2.2.2.2.1 m.2.2.2.2.2.2.1 m.2.2.2.2.2.2.2.1 m.2.2.2.2.2.2.2.2.1 m.2.2.2.2.2.2.2.2.2.1 m.2.2.2.2.2.2.2.2.2.2.1 m.2.2.2.2.2.2.2.2.2.2.2.1 m.2.2.2.2.2.2.2.2.2.2.2.2.1 m.2.2.2.2.2.2.2.2.2.2.2.2.2.1 m.2.2.2.2.2.2.2.2.2.2.2.2.2.2.1 m.2.2.2.2.2.2.2.2.2.2.2.2.2.2.2.1 t.1 t.2.1 t.2.2.1 t.2.2.2.1 t.2.2.2.2.1 t.2.2.2.2.2.1 = some (n.1, n.2.1, n.2.2.1, n.2.2.2.1, n.2.2.2.2.1, n.2.2.2.2.2.1, n.2.2.2.2.2.2.1, n.2.2.2.2.2.2.2.1, n.2.2.2.2.2.2.2.2.1, n.2.2.2.2.2.2.2.2.2.1, n.2.2.2.2.2.2.2.2.2.2.1, n.2.2.2.2.2.2.2.2.2.2.2.1, n.2.2.2.2.2.2.2.2.2.2.2.2.1, n.2.2.2.2.2.2.2.2.2.2.2.2.2.1, n.2.2.2.2.2.2.2.2.2.2.2.2.2.2.1, n.2.2.2.2.2.2.2.2.2.2.2.2.2.2.2.1, said, ((k : Nat) : Int), nx.1, nx.2.1, nx.2.2.1, nx.2.2.2.1, nx.2.2.2.2.1, nx.2.2.2.2.2.1, true, ()) ∧ spec_Hold m.1 m.2.1 m.2.2.1 m.2.2.2.1 m.2.2.2.2.1 m.2.2.2.2.2.1 m.2.2.2.2.2.2.1 m.2.2.2.2.2.2.2.1 m.2.2.2.2.2.2.2.2.1 m.2.2.2.2.2.2.2.2.2.1 m.2.2.2.2.2.2.2.2.2.2.1 m.2.2.2.2.2.2.2.2.2.2.2.1 m.2.2.2.2.2.2.2.2.2.2.2.2.1 m.2.2.2.2.2.2.2.2.2.2.2.2.2.1 m.2.2.2.2.2.2.2.2.2.2.2.2.2.2.1 m.2.2.2.2.2.2.2.2.2.2.2.2.2.2.2.1 t.1 t.2.1 t.2.2.1 t.2.2.2.1 t.2.2.2.2.1 t.2.2.2.2.2.1 = some (n.1, n.2.1, n.2.2.1, n.2.2.2.1, n.2.2.2.2.1, n.2.2.2.2.2.1, n.2.2.2.2.2.2.1, n.2.2.2.2.2.2.2.1, n.2.2.2.2.2.2.2.2.1, n.2.2.2.2.2.2.2.2.2.1, n.2.2.2.2.2.2.2.2.2.2.1, n.2.2.2.2.2.2.2.2.2.2.2.1, n.2.2.2.2.2.2.2.2.2.2.2.2.1, n.2.2.2.2.2.2.2.2.2.2.2.2.2.1, n.2.2.2.2.2.2.2.2.2.2.2.2.2.2.1, n.2.2.2.2.2.2.2.2.2.2.2.2.2.2.2.1, said, nx.1, nx.2.1, nx.2.2.1, nx.2.2.2.1, nx.2.2.2.2.1, nx.2.2.2.2.2.1, true, ()) := by
 have hid := hm.id; have hW := hm.small; have hw := hW; unfold MatW at hw; have hwl : t.2.2.2.2.2.1.length ≤ 20 := ht.2.2.2.2.2.1; obtain ⟨k, t3, hN, q1, q2, q3, q4, q5, q6⟩ := number_val t.1 t.2.1 t.2.2.1 t.2.2.2.1 t.2.2.2.2.1 t.2.2.2.2.2.1 m.1 m.2.2.2.2.1 m.2.2.2.2.2.1 (by omega) (by omega) hid ht; obtain ⟨o0, o1, o2, o3, o4, o5, o6, s1, s2, _⟩ := same_Number' t.1 t.2.1 t.2.2.1 t.2.2.2.1 t.2.2.2.2.1 t.2.2.2.2.2.1 m.1 m.2.2.2.2.1 m.2.2.2.2.2.1 (by omega); rw [hN] at s2; injection s2 with s2; simp only [Prod.mk.injEq] at s2; obtain ⟨rfl, rfl, rfl, rfl, rfl, rfl, rfl, _⟩ := s2; have hF : ∀ f ∈ numItems t.2.2.1 m.1 m.2.2.2.2.1 m.2.2.2.2.2.1 k, ItemP f := numItems_ok ⟨ht.2.2.1.1, q3⟩ hid q2 hm.short; have hFl := numItems_len t.2.2.1 m.1 m.2.2.2.2.1 m.2.2.2.2.2.1 k; generalize hFF : numItems t.2.2.1 m.1 m.2.2.2.2.1 m.2.2.2.2.2.1 k = F at *; subst hFl; have hi := putAll_items F hm.items hF; have his := items_small _ hi; have his0 := items_small _ hm.items; obtain ⟨a1, a2, _⟩ := aru_ok (putAll m.2.2.2.1 F) (by omega); have hmono : aruOf m.2.2.2.1 ≤ aruOf (putAll m.2.2.2.1 F) := aru_mono (by omega) (by omega) fun r hr => ⟨r, putAll_keep F hr, rfl⟩
 obtain ⟨z0, z1, z2, z3, z4, z5, z6⟩ := ht; have hw2 : WantsP (t.2.2.1 + ((List.length F : Nat) : Int)) t.2.2.2.2.2.1 t.2.2.2.2.2.1.length := fun j hj hj2 => by
   have := z6 j hj hj2; exact ⟨this.1, by omega, this.2.2⟩
 have ht3 : 0 ≤ t3 ∧ t3 ≤ t.2.2.1 + ((List.length F : Nat) : Int) := by
   have z3a := z3.1; have z3b := z3.2; have z2a := z2.1; rcases q4 with e | e <;> rw [e] <;> omega
 have htq : TokQ (t.1, t.2.1, t.2.2.1 + ((List.length F : Nat) : Int), t3, t.2.2.2.2.1, t.2.2.2.2.2.1, ()) := ⟨z0, z1, ⟨by show 0 ≤ t.2.2.1 + _; omega, q3⟩, ht3, z4, z5, hw2⟩; obtain ⟨u1, _, u3⟩ := tok_ok (t.1, t.2.1, t.2.2.1 + ((List.length F : Nat) : Int), t3, t.2.2.2.2.1, t.2.2.2.2.2.1, ()) (by show t.2.2.2.2.2.1.length ≤ _; omega); rw [u3.2 htq] at u1; obtain ⟨t3', t4', m1, m2, _, m4, m5⟩ := mark_val t.1 t.2.1 (t.2.2.1 + ((List.length F : Nat) : Int)) t3 t.2.2.2.2.1 t.2.2.2.2.2.1 m.1 ((aruOf (putAll m.2.2.2.1 F) : Nat) : Int) (by omega) u1; have m4 := m4 rfl hid.1 hid.2 (by omega) htq.2.2.2.1.1 htq.2.2.2.1.2; have m5 := m5 rfl hid.1 hid.2 (by omega); obtain ⟨ms, l1, l2, l3, l4⟩ := missing_val (putAll m.2.2.2.1 F) (t.2.2.1 + ((List.length F : Nat) : Int)) (by omega); have ls := lacks_spec t.1 t.2.1 (t.2.2.1 + ((List.length F : Nat) : Int)) t3' t4' t.2.2.2.2.2.1 (putAll m.2.2.2.1 F) ms (by omega) (by omega) l1 l3; have li := lacks_impl t.1 t.2.1 (t.2.2.1 + ((List.length F : Nat) : Int)) t3' t4' t.2.2.2.2.2.1 (putAll m.2.2.2.1 F) ms (by omega) (by omega) l2 l3 (fun s hs => ⟨(l4 s hs).1, (l4 s hs).2.1.1, (l4 s hs).2.2⟩); have hlw : WantsP (t.2.2.1 + ((List.length F : Nat) : Int)) (ofInts (lackL (putAll m.2.2.2.1 F) t.2.2.2.2.2.1 ms)) (ofInts (lackL (putAll m.2.2.2.1 F) t.2.2.2.2.2.1 ms)).length := lack_wants z6 (by omega) fun s hs => ⟨(l4 s hs).1, (l4 s hs).2.1.2⟩
 have hll : (ofInts (lackL (putAll m.2.2.2.1 F) t.2.2.2.2.2.1 ms)).length ≤ 20 := by
   rw [ofInts_len]; unfold lackL; rw [List.length_take]; omega
 have hlk : ∀ s ∈ intsOf (ofInts (lackL (putAll m.2.2.2.1 F) t.2.2.2.2.2.1 ms)), hasB (putAll m.2.2.2.1 F) s = false := by
   rw [intsOf_ofInts]; intro s hs; have h2 := (List.mem_filter.1 (List.mem_of_mem_take hs)).2; unfold lackP at h2; rw [Bool.or_eq_true, Bool.and_eq_true, decide_eq_true_eq, decide_eq_true_eq] at h2; rcases h2 with ⟨h2, _⟩ | h2
   · simpa using h2
   · exact (l4 s h2).2.2
 generalize ofInts (lackL (putAll m.2.2.2.1 F) t.2.2.2.2.2.1 ms) = W at *; have hrw : IntKind.i64.wrap (t.2.1 + (1 : Int)) = t.2.1 + 1 := wrap_id (by omega) (by omega); obtain ⟨c1, c2⟩ := copyToken_eq t.1 (t.2.1 + 1) (t.2.2.1 + ((List.length F : Nat) : Int)) t3' t4' W (by omega); have hW1 : MatW m ≤ 1048576 := by omega
 obtain ⟨kb1, kb2, kb3⟩ := mat_ok m hW1; rw [kb3.2 hm] at kb1 kb2; obtain ⟨kt1, kt2, kt3⟩ := tok_ok t (by omega); rw [kt3.2 ⟨z0, z1, z2, z3, z4, z5, z6⟩] at kt1 kt2; obtain ⟨p1, p2⟩ := copyMate_eq m.1 m.2.1 m.2.2.1 m.2.2.2.1 m.2.2.2.2.1 m.2.2.2.2.2.1 m.2.2.2.2.2.2.1 m.2.2.2.2.2.2.2.1 m.2.2.2.2.2.2.2.2.1 m.2.2.2.2.2.2.2.2.2.1 m.2.2.2.2.2.2.2.2.2.2.1 m.2.2.2.2.2.2.2.2.2.2.2.1 m.2.2.2.2.2.2.2.2.2.2.2.2.1 m.2.2.2.2.2.2.2.2.2.2.2.2.2.1 m.2.2.2.2.2.2.2.2.2.2.2.2.2.2.1 m.2.2.2.2.2.2.2.2.2.2.2.2.2.2.2.1 hW1; obtain ⟨g1, g2⟩ := give_val t m.2.2.2.1 (by omega) (by omega); have hgl := give_len t m.2.2.2.1; have htx := hm.texts; generalize hLN : (if (if ((aruOf (putAll m.2.2.2.1 F) : Nat) : Int) < (if t.2.2.2.1 < m.2.2.2.2.2.2.2.1 then t.2.2.2.1 else m.2.2.2.2.2.2.2.1) then ((aruOf (putAll m.2.2.2.1 F) : Nat) : Int) else (if t.2.2.2.1 < m.2.2.2.2.2.2.2.1 then t.2.2.2.1 else m.2.2.2.2.2.2.2.1)) > m.2.2.2.2.2.2.2.2.1 then (if ((aruOf (putAll m.2.2.2.1 F) : Nat) : Int) < (if t.2.2.2.1 < m.2.2.2.2.2.2.2.1 then t.2.2.2.1 else m.2.2.2.2.2.2.2.1) then ((aruOf (putAll m.2.2.2.1 F) : Nat) : Int) else (if t.2.2.2.1 < m.2.2.2.2.2.2.2.1 then t.2.2.2.1 else m.2.2.2.2.2.2.2.1)) else m.2.2.2.2.2.2.2.2.1) = line; have hle : m.2.2.2.2.2.2.2.2.1 ≤ line := by
   rw [← hLN]
   split <;> omega
 have hnx : TokQ (t.1, t.2.1 + 1, t.2.2.1 + ((List.length F : Nat) : Int), t3', t4', W, ()) := ⟨z0, ⟨by show 1 ≤ t.2.1 + 1; omega, by show t.2.1 + 1 ≤ 1000000000; omega⟩, ⟨by show 0 ≤ t.2.2.1 + _; have := z2.1; omega, q3⟩, ⟨m4.1, m4.2.1⟩, by
   have z4a := z4.1; have z4b := z4.2; show 0 ≤ t4' ∧ t4' ≤ 5; rcases m4.2.2.2.2 with e | e | ⟨e, _⟩ <;> rw [e] <;> omega, hll, hlw⟩
 refine ⟨(m.1, m.2.1, m.2.2.1, putAll m.2.2.2.1 F, m.2.2.2.2.1.drop F.length, m.2.2.2.2.2.1.drop F.length, t.2.1, t.2.2.2.1, line, m.2.2.2.2.2.2.2.2.2.1, t.1, t.2.1 + 1, t.2.2.1 + ((List.length F : Nat) : Int), t3', t4', W, ()), giveL t m.2.2.2.1 ++ F, F.length, (t.1, t.2.1 + 1, t.2.2.1 + ((List.length F : Nat) : Int), t3', t4', W, ()), ?_, ?_, ?_⟩
 · have hn : MatQ (m.1, m.2.1, m.2.2.1, putAll m.2.2.2.1 F, m.2.2.2.2.1.drop F.length, m.2.2.2.2.2.1.drop F.length, t.2.1, t.2.2.2.1, line, m.2.2.2.2.2.2.2.2.2.1, t.1, t.2.1 + 1, t.2.2.1 + ((List.length F : Nat) : Int), t3', t4', W, ()) := {
     ring := hm.ring
     mem := hm.mem
     items := hi
     texts := ⟨by show (m.2.2.2.2.2.1.drop F.length).length ≤ 20; rw [List.length_drop]; omega, by show (m.2.2.2.2.1.drop F.length).length = (m.2.2.2.2.2.1.drop F.length).length; rw [List.length_drop, List.length_drop]; omega⟩
     lev := hm.lev.drop _
     short := hm.short.drop _
     round := ⟨by show 0 ≤ t.2.1; omega, by show t.2.1 ≤ 1000000000; omega⟩
     seen := ⟨z3.1, by show t.2.2.2.1 ≤ 60; have := z3.2; omega⟩
     line := by
       have hl := hm.line; have hs := hm.seen; have ha := z3.1; show 0 ≤ line ∧ line ≤ ((aruOf (putAll m.2.2.2.1 F) : Nat) : Int); rw [← hLN]
       split <;> split <;> (try split) <;> omega
     heard := by
       have hl := hm.heard; show 0 ≤ m.2.2.2.2.2.2.2.2.2.1 ∧ m.2.2.2.2.2.2.2.2.2.1 ≤ ((aruOf (putAll m.2.2.2.1 F) : Nat) : Int); omega
     last := .inr hnx }
   have hmost : F.length = min 3 m.2.2.2.2.2.1.length ∨ t.2.2.1 + ((F.length : Nat) : Int) = 60 := by
     rcases q5 with h | h | ⟨h, h'⟩
     · exact .inl h
     · exact .inr (by omega)
     · have := hm.short _ h h; omega
   have hline : line = m.2.2.2.2.2.2.2.2.1 ∨ (line ≤ m.2.2.2.2.2.2.2.1 ∧ line ≤ t.2.2.2.1 ∧ line ≤ ((aruOf (putAll m.2.2.2.1 F) : Nat) : Int)) := by
     rw [← hLN]
     split <;> split <;> (try split) <;> omega
   exact { few := ⟨q1, q2, q3⟩, said := by rw [hFF], id := ⟨rfl, rfl, rfl⟩, items := by rw [hFF], words := ⟨rfl, rfl⟩, round := ⟨rfl, rfl, hle, rfl⟩, last := rfl, nq := hn, tq := hnx, next := ⟨rfl, rfl, rfl⟩, most := hmost, marks := ⟨m5.1.trans (by rw [q6]), m5.2.trans (by rw [q6])⟩, line := hline, lacks := hlk }
 · unfold impl_hold; simp only [dec_true hc, dec_false (show ¬ t.2.1 ≤ m.2.2.2.2.2.2.1 by omega), dec_false (show ¬ (1000000000 : Int) ≤ t.2.1 by omega), kb2, kt2, p2, g2, hN, Option.bind_some, Bool.not_true, cond_false, cond_true, zero_le_nat, toNat_nat, dec_true (show ((List.length F : Nat) : Int) ≤ ((List.length m.2.2.2.2.1 : Nat) : Int) by omega), dec_true (show ((List.length F : Nat) : Int) ≤ ((List.length m.2.2.2.2.2.1 : Nat) : Int) by omega)]; rw [hold_loop_impl (hx := hm.items) (hf := hF) (hn := by omega) ..]; simp only [outK_inl, a2, m2, li, hrw, c2, Option.bind_some, hLN]; rw [ble_true (show ((giveL t m.2.2.2.1).length + F.length) * 40 ≤ lim by unfold lim; omega)]; rfl
 · subst hLN; unfold spec_Hold; simp only [dec_true hc, dec_false (show ¬ t.2.1 ≤ m.2.2.2.2.2.2.1 by omega), dec_false (show ¬ (1000000000 : Int) ≤ t.2.1 by omega), kb1, kt1, p1, g1, s1, Option.bind_some, Bool.not_true, cond_false, cond_true, zero_le_nat, toNat_nat, dec_true (show ((List.length F : Nat) : Int) ≤ ((List.length m.2.2.2.2.1 : Nat) : Int) by omega), dec_true (show ((List.length F : Nat) : Int) ≤ ((List.length m.2.2.2.2.2.1 : Nat) : Int) by omega),
     ble_true (show (0 + (giveL t m.2.2.2.1).length) * 40 ≤ lim by unfold lim; omega), ble_true (show (0 + (List.drop F.length m.2.2.2.2.1).length) * 8 ≤ lim by rw [List.length_drop]; unfold lim; omega), ble_true (show (0 + (List.drop F.length m.2.2.2.2.2.1).length) * 16 ≤ lim by rw [List.length_drop]; unfold lim; omega), List.nil_append]
   rw [hold_loop_spec (hx := hm.items) (hf := hF) (hn := by omega) ..]; simp only [outK_inl, a1, m1, Option.bind_some, ble_true (show ((giveL t m.2.2.2.1).length + F.length) * 40 ≤ lim by unfold lim; omega), cond_true]
   by_cases h1 : t.2.2.2.1 < m.2.2.2.2.2.2.2.1
   · rw [dec_true h1, if_pos h1]; simp only [cond_true]
     by_cases h2 : ((aruOf (putAll m.2.2.2.1 F) : Nat) : Int) < t.2.2.2.1
     · rw [dec_true h2, if_pos h2]; simp only [cond_true]
       by_cases h3 : m.2.2.2.2.2.2.2.2.1 < ((aruOf (putAll m.2.2.2.1 F) : Nat) : Int)
       · rw [dec_true h3, if_pos (show ((aruOf (putAll m.2.2.2.1 F) : Nat) : Int) > m.2.2.2.2.2.2.2.2.1 from h3)]; simp only [cond_true, ls, hrw, c1, Option.bind_some]
       · rw [dec_false h3, if_neg (show ¬ ((aruOf (putAll m.2.2.2.1 F) : Nat) : Int) > m.2.2.2.2.2.2.2.2.1 from h3)]; simp only [cond_false, ls, hrw, c1, Option.bind_some]
     · rw [dec_false h2, if_neg h2]; simp only [cond_false]
       by_cases h3 : m.2.2.2.2.2.2.2.2.1 < t.2.2.2.1
       · rw [dec_true h3, if_pos (show t.2.2.2.1 > m.2.2.2.2.2.2.2.2.1 from h3)]; simp only [cond_true, ls, hrw, c1, Option.bind_some]
       · rw [dec_false h3, if_neg (show ¬ t.2.2.2.1 > m.2.2.2.2.2.2.2.2.1 from h3)]; simp only [cond_false, ls, hrw, c1, Option.bind_some]
   · rw [dec_false h1, if_neg h1]; simp only [cond_false]
     by_cases h2 : ((aruOf (putAll m.2.2.2.1 F) : Nat) : Int) < m.2.2.2.2.2.2.2.1
     · rw [dec_true h2, if_pos h2]; simp only [cond_true]
       by_cases h3 : m.2.2.2.2.2.2.2.2.1 < ((aruOf (putAll m.2.2.2.1 F) : Nat) : Int)
       · rw [dec_true h3, if_pos (show ((aruOf (putAll m.2.2.2.1 F) : Nat) : Int) > m.2.2.2.2.2.2.2.2.1 from h3)]; simp only [cond_true, ls, hrw, c1, Option.bind_some]
       · rw [dec_false h3, if_neg (show ¬ ((aruOf (putAll m.2.2.2.1 F) : Nat) : Int) > m.2.2.2.2.2.2.2.2.1 from h3)]; simp only [cond_false, ls, hrw, c1, Option.bind_some]
     · rw [dec_false h2, if_neg h2]; simp only [cond_false]
       by_cases h3 : m.2.2.2.2.2.2.2.2.1 < m.2.2.2.2.2.2.2.1
       · rw [dec_true h3, if_pos (show m.2.2.2.2.2.2.2.1 > m.2.2.2.2.2.2.2.2.1 from h3)]; simp only [cond_true, ls, hrw, c1, Option.bind_some]
       · rw [dec_false h3, if_neg (show ¬ m.2.2.2.2.2.2.2.1 > m.2.2.2.2.2.2.2.2.1 from h3)]; simp only [cond_false, ls, hrw, c1, Option.bind_some]
noncomputable def holdB (m : MatR) (t : TokR) : Bool := matB m && (tokB t && (decide (t.1 = m.2.1) && (decide (m.2.2.2.2.2.2.1 < t.2.1) && decide (t.2.1 < 1000000000))))
theorem hold_no (m : MatR) (t : TokR) (h : MatW m ≤ 1048576) (hw : t.2.2.2.2.2.1.length ≤ 1048576) (hn : holdB m t = false) : impl_hold m.1 m.2.1 m.2.2.1 m.2.2.2.1 m.2.2.2.2.1 m.2.2.2.2.2.1 m.2.2.2.2.2.2.1 m.2.2.2.2.2.2.2.1 m.2.2.2.2.2.2.2.2.1 m.2.2.2.2.2.2.2.2.2.1 m.2.2.2.2.2.2.2.2.2.2.1 m.2.2.2.2.2.2.2.2.2.2.2.1 m.2.2.2.2.2.2.2.2.2.2.2.2.1 m.2.2.2.2.2.2.2.2.2.2.2.2.2.1 m.2.2.2.2.2.2.2.2.2.2.2.2.2.2.1 m.2.2.2.2.2.2.2.2.2.2.2.2.2.2.2.1 t.1 t.2.1 t.2.2.1 t.2.2.2.1 t.2.2.2.2.1 t.2.2.2.2.2.1 = some ((0 : Int), (0 : Int), [], [], [], [], (0 : Int), (0 : Int), (0 : Int), (0 : Int), (0 : Int), (0 : Int), (0 : Int), (0 : Int), (0 : Int), [], [], (0 : Int), (0 : Int), (0 : Int), (0 : Int), (0 : Int), (0 : Int), [], false, ()) ∧
   spec_Hold m.1 m.2.1 m.2.2.1 m.2.2.2.1 m.2.2.2.2.1 m.2.2.2.2.2.1 m.2.2.2.2.2.2.1 m.2.2.2.2.2.2.2.1 m.2.2.2.2.2.2.2.2.1 m.2.2.2.2.2.2.2.2.2.1 m.2.2.2.2.2.2.2.2.2.2.1 m.2.2.2.2.2.2.2.2.2.2.2.1 m.2.2.2.2.2.2.2.2.2.2.2.2.1 m.2.2.2.2.2.2.2.2.2.2.2.2.2.1 m.2.2.2.2.2.2.2.2.2.2.2.2.2.2.1 m.2.2.2.2.2.2.2.2.2.2.2.2.2.2.2.1 t.1 t.2.1 t.2.2.1 t.2.2.2.1 t.2.2.2.2.1 t.2.2.2.2.2.1 = some (m.1, m.2.1, m.2.2.1, m.2.2.2.1, m.2.2.2.2.1, m.2.2.2.2.2.1, m.2.2.2.2.2.2.1, m.2.2.2.2.2.2.2.1, m.2.2.2.2.2.2.2.2.1, m.2.2.2.2.2.2.2.2.2.1, m.2.2.2.2.2.2.2.2.2.2.1, m.2.2.2.2.2.2.2.2.2.2.2.1, m.2.2.2.2.2.2.2.2.2.2.2.2.1, m.2.2.2.2.2.2.2.2.2.2.2.2.2.1, m.2.2.2.2.2.2.2.2.2.2.2.2.2.2.1, m.2.2.2.2.2.2.2.2.2.2.2.2.2.2.2.1, [], (0 : Int), (0 : Int), (0 : Int), (0 : Int), (0 : Int), [], false, ()) := by
 obtain ⟨k1, k2, _⟩ := mat_ok m h; obtain ⟨t1, t2, _⟩ := tok_ok t hw; obtain ⟨p1, _⟩ := copyMate_eq m.1 m.2.1 m.2.2.1 m.2.2.2.1 m.2.2.2.2.1 m.2.2.2.2.2.1 m.2.2.2.2.2.2.1 m.2.2.2.2.2.2.2.1 m.2.2.2.2.2.2.2.2.1 m.2.2.2.2.2.2.2.2.2.1 m.2.2.2.2.2.2.2.2.2.2.1 m.2.2.2.2.2.2.2.2.2.2.2.1 m.2.2.2.2.2.2.2.2.2.2.2.2.1 m.2.2.2.2.2.2.2.2.2.2.2.2.2.1 m.2.2.2.2.2.2.2.2.2.2.2.2.2.2.1 m.2.2.2.2.2.2.2.2.2.2.2.2.2.2.2.1 h; unfold holdB at hn
 constructor
 · unfold impl_hold
   by_cases a1 : t.1 = m.2.1
   case neg => rw [dec_false a1]; rfl
   by_cases a2 : m.2.2.2.2.2.2.1 < t.2.1
   case neg => rw [dec_true a1, dec_true (show t.2.1 ≤ m.2.2.2.2.2.2.1 by omega)]; rfl
   by_cases a3 : t.2.1 < 1000000000
   case neg => rw [dec_true a1, dec_false (show ¬ t.2.1 ≤ m.2.2.2.2.2.2.1 by omega), dec_true (show (1000000000 : Int) ≤ t.2.1 by omega)]; rfl
   rw [dec_true a1, dec_true a2, dec_true a3] at hn; rw [dec_true a1, dec_false (show ¬ t.2.1 ≤ m.2.2.2.2.2.2.1 by omega), dec_false (show ¬ (1000000000 : Int) ≤ t.2.1 by omega)]; simp only [Bool.not_true, cond_false, k2, Option.bind_some]
   cases hb : matB m
   · rfl
   · rw [hb] at hn
     cases hc : tokB t
     · simp only [t2, hc, Bool.not_true, cond_false, Option.bind_some]; rfl
     · rw [hc] at hn; cases hn
 · unfold spec_Hold; simp only [p1, k1, Option.bind_some]
   cases hb : matB m
   · rfl
   simp only [Bool.not_true, cond_false, t1, Option.bind_some]
   cases hc : tokB t
   · rfl
   by_cases a1 : t.1 = m.2.1
   case neg => rw [dec_false a1]; rfl
   by_cases a2 : m.2.2.2.2.2.2.1 < t.2.1
   case neg => rw [dec_true a1, dec_true (show t.2.1 ≤ m.2.2.2.2.2.2.1 by omega)]; rfl
   by_cases a3 : t.2.1 < 1000000000
   case neg => rw [dec_true a1, dec_false (show ¬ t.2.1 ≤ m.2.2.2.2.2.2.1 by omega), dec_true (show (1000000000 : Int) ≤ t.2.1 by omega)]; rfl
   rw [dec_true a1, dec_true a2, dec_true a3, hb, hc] at hn
   cases hn
end Go.TM

/- Marks: the texts that the laws write into what they mark. -/
import Derived.Test.YtiljcjnnhkidbaaGreatAHelp
set_option linter.unusedSimpArgs false
set_option linter.unusedVariables false
namespace Go.TM
open Go
def byteU (y : Int × Unit) : UInt8 := UInt8.ofNat y.1.toNat
theorem bytesOf_data (ys : List (Int × Unit)) : (bytesOf ys).data.toList = ys.map byteU := by
 have key : ∀ (ys : List (Int × Unit)) (s : ByteArray), (List.foldl (fun (r : ByteArray) (y : Int × Unit) => r.push (UInt8.ofNat y.1.toNat)) s ys).data.toList = s.data.toList ++ ys.map byteU := by
   intro ys
   induction ys with
   | nil => intro s; simp
   | cons y ys ih =>
     intro s; rw [List.foldl_cons, ih]; simp [byteU]
 have := key ys ByteArray.empty; exact this
theorem bytesOf_size (ys : List (Int × Unit)) : (bytesOf ys).size = ys.length := by
 have h1 : (bytesOf ys).data.toList.length = (bytesOf ys).size := Array.length_toList; rw [← h1, bytesOf_data, List.length_map]
def MarkOut {B : Type} : Sum (ByteArray × Unit) B → Prop
 | .inl y => y.1.size ≤ 20
 | .inr _ => False
theorem marktext_total (n : Nat) (h : n < 1099511627776) : ∃ b : ByteArray, laws_markText ((n : Nat) : Int) = some (b, ()) := by
 unfold laws_markText
 by_cases h0 : ((n : Nat) : Int) ≤ 0
 · rw [dec_true h0]; exact ⟨_, rfl⟩
 rw [dec_false h0]; obtain ⟨e, he, hq⟩ := loop_inv (round := laws_markText_r0) (x := (((n : Nat) : Int), (ByteArray.mk #[]), ())) 20 (fun k x => ∃ (m : Nat) (out : ByteArray), x = (((m : Nat) : Int), out, ()) ∧ m ≤ n ∧ m < 10 ^ (20 - k) ∧ out.size = k)
   MarkOut (by
   rintro x ⟨m, out, rfl, hn, hm, hl⟩
   have hm : m < 1 := hm; refine ⟨.inl (out, ()), ?_, by show out.size ≤ 20; omega⟩; simp only [laws_markText_r0, laws_markText_c0, dec_false (show ¬ (0 : Int) < ((m : Nat) : Int) by omega), cond_false]) (by
   rintro k x hk ⟨m, out, rfl, hn, hm, hl⟩
   by_cases h1 : 0 < m
   · have hd : Int.tdiv ((m : Nat) : Int) (10 : Int) = ((m / 10 : Nat) : Int) := rfl; have hbz : ByteArray.size (bytesOf [(IntKind.u8.wrap (IntKind.i64.wrap ((48 : Int) + (Int.tmod ((m : Nat) : Int) (10 : Int)))), ())]) = 1 := bytesOf_size _; refine .inr ⟨(((m / 10 : Nat) : Int), bytesOf [(IntKind.u8.wrap (IntKind.i64.wrap ((48 : Int) + (Int.tmod ((m : Nat) : Int) (10 : Int)))), ())] ++ out, ()), ?_, m / 10, bytesOf [(IntKind.u8.wrap (IntKind.i64.wrap ((48 : Int) + (Int.tmod ((m : Nat) : Int) (10 : Int)))), ())] ++ out, rfl, by omega, ?_, ?_⟩
     · simp only [laws_markText_r0, laws_markText_c0, dec_true (show (0 : Int) < ((m : Nat) : Int) by omega), cond_true, hd, wrap_id (show -9223372036854775808 ≤ ((m / 10 : Nat) : Int) by omega) (show ((m / 10 : Nat) : Int) < 9223372036854775808 by omega), hbz,
         ble_true (show 1 + out.size ≤ lim by unfold lim; omega)]
     · have e1 : 20 - k = (20 - (k + 1)) + 1 := by omega
       rw [e1, Nat.pow_succ] at hm; omega
     · rw [ByteArray.size_append, hbz]; omega
   · refine .inl ⟨.inl (out, ()), ?_, by show out.size ≤ 20; omega⟩; simp only [laws_markText_r0, laws_markText_c0, dec_false (show ¬ (0 : Int) < ((m : Nat) : Int) by omega), cond_false]) ⟨n, _, rfl, Nat.le_refl _, by show n < 100000000000000000000; omega, rfl⟩
 rw [he]
 cases e with
 | inr e => exact hq.elim
 | inl e =>
   have hq : e.1.size ≤ 20 := hq; simp only [cond_false, outK_inl, ble_true (show 1 + ByteArray.size e.1 ≤ lim by unfold lim; omega), cond_true]; exact ⟨_, rfl⟩
noncomputable def markOf (n : Nat) : ByteArray := if h : n < 1099511627776 then Classical.choose (marktext_total n h) else ByteArray.empty
theorem markOf_eq {n : Nat} (h : n < 1099511627776) : laws_markText ((n : Nat) : Int) = some (markOf n, ()) := by
 unfold markOf; rw [dif_pos h]; exact Classical.choose_spec (marktext_total n h)
end Go.TM

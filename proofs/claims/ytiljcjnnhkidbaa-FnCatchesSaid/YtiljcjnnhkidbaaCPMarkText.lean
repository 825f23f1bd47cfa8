/- Marks: the texts that the laws write into what they mark. -/
import Derived.Test.YtiljcjnnhkidbaaCHelp
set_option linter.unusedSimpArgs false
set_option linter.unusedVariables false
namespace Go.TM
open Go
def byteU (y : Int × Unit) : UInt8 := UInt8.ofNat y.1.toNat
theorem bytesOf_data (ys : List (Int × Unit)) : (bytesOf ys).data.toList = ys.map byteU := by
 have key : ∀ (ys : List (Int × Unit)) (s : ByteArray), (List.foldl (fun (r : ByteArray) (y : Int × Unit) => r.push (UInt8.ofNat y.1.toNat)) s ys).data.toList = s.data.toList ++ ys.map byteU := by
   intro ys
   induction ys with
   | nil => intro s; simp
   | cons y ys ih =>
     intro s; rw [List.foldl_cons, ih]; simp [byteU]
 have := key ys ByteArray.empty; exact this
theorem bytesOf_size (ys : List (Int × Unit)) : (bytesOf ys).size = ys.length := by
 have h1 : (bytesOf ys).data.toList.length = (bytesOf ys).size := Array.length_toList; rw [← h1, bytesOf_data, List.length_map]
end Go.TM

/- Plain mathematics: two texts that differ in one byte have different CRCs; a sealed text with one byte changed is told so; a CRC goes on. -/
import Derived.Test.YtoakgjellgkolaaGreatDoorMCrc
import Derived.Test.YtoakgjellgkolaaGreatDoorMRound
set_option linter.unusedVariables false
set_option linter.unusedSimpArgs false
namespace Go.Proofs.YtoakgjellgkolaaGreatDoor.M
open Go.RowKit Go.Proofs.YtoakgjellgkolaaGreatDoorW.PrintWords Go.Proofs.YtoakgjellgkolaaGreatDoorW.PrintLast Go.Proofs.YtoakgjellgkolaaGreatDoorW.PrintMore

theorem unsealed_seal (t : ByteArray) : unsealed (seal_ t) = (t, 0) := by
 have hsz := seal_size t
 rw [unseal_long' (by omega)]
 have hl : (seal_ t).data.toList = t.data.toList ++ (four (crc 0 t)).data.toList := by unfold seal_; rw [append_data]
 have hn : t.data.toList.length = t.size := (size_list t).symm
 have h1 : (seal_ t).extract 0 ((seal_ t).size - 4) = t := by
  apply ba_ext
  rw [extract_list, hl, List.drop_zero, List.take_append_of_le_length (by omega), List.take_of_length_le (by omega)]
 have h2 : (seal_ t).extract ((seal_ t).size - 4) (seal_ t).size = four (crc 0 t) := by
  apply ba_ext
  rw [extract_list, List.take_of_length_le (by rw [← size_list]; omega), hl, List.drop_append_of_le_length (by omega), List.drop_of_length_le (by omega), List.nil_append]
 rw [h1, h2, if_pos rfl]
end Go.Proofs.YtoakgjellgkolaaGreatDoor.M
-- halved

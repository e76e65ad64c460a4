/- outbox: the law OutboxMarks -/
import Derived.Test.YtpgppgehhclfoaaGreatOBC03
import Derived.Test.YtpgppgehhclfoaaGreatOBC05
import Derived.KernelRfl
namespace Go.Proofs.YtpgppgehhclfoaaGreat.TyX
open Go Go.Aw
set_option maxRecDepth 100000
instance:TI Tryz.prog 1 (.other) 1 8:=⟨by kernel_rfl, by kernel_rfl⟩
instance:TI Tryz.prog 2 (.int .i64) 1 8:=⟨by kernel_rfl, by kernel_rfl⟩
instance:TZ Tryz.prog 2 ([(.int .i64 0)]):=⟨by kernel_rfl⟩
instance:TZ Tryz.prog 4 ([(.bool false)]):=⟨by kernel_rfl⟩
instance:TI Tryz.prog 6 (.int .u8) 1 1:=⟨by kernel_rfl, by kernel_rfl⟩
instance:TZ Tryz.prog 6 ([(.int .u8 0)]):=⟨by kernel_rfl⟩
instance:TI Tryz.prog 7 (.struct [(0, 2), (1, 3), (2, 4), (3, 6)]) 4 24:=⟨by kernel_rfl, by kernel_rfl⟩
instance:TZ Tryz.prog 7 ([(.int .i64 0), (.int .i64 0), (.bool false), (.int .u8 0)]):=⟨by kernel_rfl⟩
instance:TF Tryz.prog 7 [(0, 1), (1, 1), (2, 1), (3, 1)]:=⟨by kernel_rfl⟩
instance:TI Tryz.prog 8 (.struct [(0, 2), (1, 3), (2, 4), (3, 6)]) 4 24:=⟨by kernel_rfl, by kernel_rfl⟩
instance:TZ Tryz.prog 8 ([(.int .i64 0), (.int .i64 0), (.bool false), (.int .u8 0)]):=⟨by kernel_rfl⟩
instance:TF Tryz.prog 8 [(0, 1), (1, 1), (2, 1), (3, 1)]:=⟨by kernel_rfl⟩
instance:TZ Tryz.prog 9 ([(.string ByteArray.empty)]):=⟨by kernel_rfl⟩
instance:TI Tryz.prog 10 (.string) 1 16:=⟨by kernel_rfl, by kernel_rfl⟩
instance:TZ Tryz.prog 10 ([(.string ByteArray.empty)]):=⟨by kernel_rfl⟩
instance:TI Tryz.prog 11 (.string) 1 16:=⟨by kernel_rfl, by kernel_rfl⟩
instance:TZ Tryz.prog 11 ([(.string ByteArray.empty)]):=⟨by kernel_rfl⟩
instance:TI Tryz.prog 12 (.int .u64) 1 8:=⟨by kernel_rfl, by kernel_rfl⟩
instance:TZ Tryz.prog 12 ([(.int .u64 0)]):=⟨by kernel_rfl⟩
instance:TI Tryz.prog 13 (.struct [(0, 9), (1, 12)]) 2 24:=⟨by kernel_rfl, by kernel_rfl⟩
instance:TZ Tryz.prog 13 ([(.string ByteArray.empty), (.int .u64 0)]):=⟨by kernel_rfl⟩
instance:TF Tryz.prog 13 [(0, 1), (1, 1)]:=⟨by kernel_rfl⟩
instance:TI Tryz.prog 14 (.struct [(0, 9), (1, 12)]) 2 24:=⟨by kernel_rfl, by kernel_rfl⟩
instance:TZ Tryz.prog 14 ([(.string ByteArray.empty), (.int .u64 0)]):=⟨by kernel_rfl⟩
instance:TF Tryz.prog 14 [(0, 1), (1, 1)]:=⟨by kernel_rfl⟩
instance:TI Tryz.prog 15 (.ptr 322) 1 8:=⟨by kernel_rfl, by kernel_rfl⟩
instance:TZ Tryz.prog 15 ([(.pointer none)]):=⟨by kernel_rfl⟩
instance:TI Tryz.prog 16 (.ptr 325) 1 8:=⟨by kernel_rfl, by kernel_rfl⟩
instance:TZ Tryz.prog 16 ([(.pointer none)]):=⟨by kernel_rfl⟩
instance:TI Tryz.prog 17 (.ptr 333) 1 8:=⟨by kernel_rfl, by kernel_rfl⟩
instance:TZ Tryz.prog 17 ([(.pointer none)]):=⟨by kernel_rfl⟩
instance:TI Tryz.prog 18 (.struct [(0, 17)]) 1 8:=⟨by kernel_rfl, by kernel_rfl⟩
instance:TZ Tryz.prog 18 ([(.pointer none)]):=⟨by kernel_rfl⟩
instance:TF Tryz.prog 18 [(0, 1)]:=⟨by kernel_rfl⟩
instance:TI Tryz.prog 19 (.struct [(0, 17)]) 1 8:=⟨by kernel_rfl, by kernel_rfl⟩
instance:TZ Tryz.prog 19 ([(.pointer none)]):=⟨by kernel_rfl⟩
instance:TF Tryz.prog 19 [(0, 1)]:=⟨by kernel_rfl⟩
instance:TI Tryz.prog 21 (.int .i32) 1 4:=⟨by kernel_rfl, by kernel_rfl⟩
instance:TZ Tryz.prog 21 ([(.int .i32 0)]):=⟨by kernel_rfl⟩
instance:TI Tryz.prog 22 (.array 32 5) 32 32:=⟨by kernel_rfl, by kernel_rfl⟩
instance:TZ Tryz.prog 22 (List.replicate 32 (.int .u8 0)):=⟨by kernel_rfl⟩
instance:EqT Tryz.prog 22 (List.replicate 32 (LK.int .u8)):=⟨by kernel_rfl, by kernel_rfl⟩
instance:TZ Tryz.prog 24 ([(.slice none 0 0)]):=⟨by kernel_rfl⟩
instance:TZ Tryz.prog 25 ([(.slice none 0 0)]):=⟨by kernel_rfl⟩
instance:TZ Tryz.prog 26 ([(.slice none 0 0)]):=⟨by kernel_rfl⟩
instance:TI Tryz.prog 27 (.struct [(0, 3), (1, 3), (2, 3), (3, 3), (4, 3), (5, 23), (37, 24), (38, 25), (39, 26)]) 40 144:=⟨by kernel_rfl, by kernel_rfl⟩
instance:TZ Tryz.prog 27 ([(.int .i64 0), (.int .i64 0), (.int .i64 0), (.int .i64 0), (.int .i64 0), (.int .u8 0), (.int .u8 0), (.int .u8 0), (.int .u8 0), (.int .u8 0), (.int .u8 0), (.int .u8 0), (.int .u8 0), (.int .u8 0), (.int .u8 0), (.int .u8 0), (.int .u8 0), (.int .u8 0), (.int .u8 0), (.int .u8 0), (.int .u8 0), (.int .u8 0), (.int .u8 0), (.int .u8 0), (.int .u8 0), (.int .u8 0), (.int .u8 0), (.int .u8 0), (.int .u8 0), (.int .u8 0), (.int .u8 0), (.int .u8 0), (.int .u8 0), (.int .u8 0), (.int .u8 0), (.int .u8 0), (.int .u8 0), (.slice none 0 0), (.slice none 0 0), (.slice none 0 0)]):=⟨by kernel_rfl⟩
instance:TF Tryz.prog 27 [(0, 1), (1, 1), (2, 1), (3, 1), (4, 1), (5, 32), (37, 1), (38, 1), (39, 1)]:=⟨by kernel_rfl⟩
instance:TI Tryz.prog 30 (.other) 1 8:=⟨by kernel_rfl, by kernel_rfl⟩
instance:TI Tryz.prog 31 (.other) 1 8:=⟨by kernel_rfl, by kernel_rfl⟩
instance:TI Tryz.prog 32 (.slice 202) 1 24:=⟨by kernel_rfl, by kernel_rfl⟩
instance:TZ Tryz.prog 32 ([(.slice none 0 0)]):=⟨by kernel_rfl⟩
instance:TI Tryz.prog 33 (.struct [(0, 3), (1, 3), (2, 3), (3, 3), (4, 3), (5, 23), (37, 24), (38, 25), (39, 32)]) 40 144:=⟨by kernel_rfl, by kernel_rfl⟩
instance:TZ Tryz.prog 33 ([(.int .i64 0), (.int .i64 0), (.int .i64 0), (.int .i64 0), (.int .i64 0), (.int .u8 0), (.int .u8 0), (.int .u8 0), (.int .u8 0), (.int .u8 0), (.int .u8 0), (.int .u8 0), (.int .u8 0), (.int .u8 0), (.int .u8 0), (.int .u8 0), (.int .u8 0), (.int .u8 0), (.int .u8 0), (.int .u8 0), (.int .u8 0), (.int .u8 0), (.int .u8 0), (.int .u8 0), (.int .u8 0), (.int .u8 0), (.int .u8 0), (.int .u8 0), (.int .u8 0), (.int .u8 0), (.int .u8 0), (.int .u8 0), (.int .u8 0), (.int .u8 0), (.int .u8 0), (.int .u8 0), (.int .u8 0), (.slice none 0 0), (.slice none 0 0), (.slice none 0 0)]):=⟨by kernel_rfl⟩
instance:TF Tryz.prog 33 [(0, 1), (1, 1), (2, 1), (3, 1), (4, 1), (5, 32), (37, 1), (38, 1), (39, 1)]:=⟨by kernel_rfl⟩
instance:TI Tryz.prog 34 (.struct [(0, 3), (1, 3), (2, 3), (3, 3), (4, 3), (5, 23), (37, 24), (38, 25), (39, 32)]) 40 144:=⟨by kernel_rfl, by kernel_rfl⟩
instance:TZ Tryz.prog 34 ([(.int .i64 0), (.int .i64 0), (.int .i64 0), (.int .i64 0), (.int .i64 0), (.int .u8 0), (.int .u8 0), (.int .u8 0), (.int .u8 0), (.int .u8 0), (.int .u8 0), (.int .u8 0), (.int .u8 0), (.int .u8 0), (.int .u8 0), (.int .u8 0), (.int .u8 0), (.int .u8 0), (.int .u8 0), (.int .u8 0), (.int .u8 0), (.int .u8 0), (.int .u8 0), (.int .u8 0), (.int .u8 0), (.int .u8 0), (.int .u8 0), (.int .u8 0), (.int .u8 0), (.int .u8 0), (.int .u8 0), (.int .u8 0), (.int .u8 0), (.int .u8 0), (.int .u8 0), (.int .u8 0), (.int .u8 0), (.slice none 0 0), (.slice none 0 0), (.slice none 0 0)]):=⟨by kernel_rfl⟩
instance:TF Tryz.prog 34 [(0, 1), (1, 1), (2, 1), (3, 1), (4, 1), (5, 32), (37, 1), (38, 1), (39, 1)]:=⟨by kernel_rfl⟩
instance:TI Tryz.prog 35 (.other) 1 8:=⟨by kernel_rfl, by kernel_rfl⟩
instance:TZ Tryz.prog 36 ([(.int .i64 0)]):=⟨by kernel_rfl⟩
instance:TI Tryz.prog 38 (.other) 1 8:=⟨by kernel_rfl, by kernel_rfl⟩
instance:TI Tryz.prog 40 (.other) 1 8:=⟨by kernel_rfl, by kernel_rfl⟩
instance:TI Tryz.prog 42 (.other) 1 8:=⟨by kernel_rfl, by kernel_rfl⟩
instance:TI Tryz.prog 43 (.other) 1 8:=⟨by kernel_rfl, by kernel_rfl⟩
instance:TI Tryz.prog 44 (.other) 1 8:=⟨by kernel_rfl, by kernel_rfl⟩
instance:TI Tryz.prog 45 (.other) 1 8:=⟨by kernel_rfl, by kernel_rfl⟩
instance:TI Tryz.prog 46 (.other) 1 8:=⟨by kernel_rfl, by kernel_rfl⟩
instance:TI Tryz.prog 47 (.other) 1 8:=⟨by kernel_rfl, by kernel_rfl⟩
instance:TZ Tryz.prog 48 ([(.slice none 0 0)]):=⟨by kernel_rfl⟩
instance:TI Tryz.prog 49 (.other) 1 8:=⟨by kernel_rfl, by kernel_rfl⟩
instance:TZ Tryz.prog 50 ([(.pointer none)]):=⟨by kernel_rfl⟩
instance:TI Tryz.prog 51 (.other) 1 8:=⟨by kernel_rfl, by kernel_rfl⟩
instance:TI Tryz.prog 52 (.ptr 56) 1 8:=⟨by kernel_rfl, by kernel_rfl⟩
instance:TZ Tryz.prog 52 ([(.pointer none)]):=⟨by kernel_rfl⟩
instance:TI Tryz.prog 53 (.slice 34) 1 24:=⟨by kernel_rfl, by kernel_rfl⟩
instance:TZ Tryz.prog 53 ([(.slice none 0 0)]):=⟨by kernel_rfl⟩
instance:TI Tryz.prog 54 (.slice 159) 1 24:=⟨by kernel_rfl, by kernel_rfl⟩
instance:TZ Tryz.prog 54 ([(.slice none 0 0)]):=⟨by kernel_rfl⟩
instance:TI Tryz.prog 55 (.struct [(0, 53), (1, 24), (2, 54), (3, 24), (4, 3)]) 5 104:=⟨by kernel_rfl, by kernel_rfl⟩
instance:TZ Tryz.prog 55 ([(.slice none 0 0), (.slice none 0 0), (.slice none 0 0), (.slice none 0 0), (.int .i64 0)]):=⟨by kernel_rfl⟩
instance:TF Tryz.prog 55 [(0, 1), (1, 1), (2, 1), (3, 1), (4, 1)]:=⟨by kernel_rfl⟩
instance:TI Tryz.prog 56 (.struct [(0, 53), (1, 24), (2, 54), (3, 24), (4, 3)]) 5 104:=⟨by kernel_rfl, by kernel_rfl⟩
instance:TZ Tryz.prog 56 ([(.slice none 0 0), (.slice none 0 0), (.slice none 0 0), (.slice none 0 0), (.int .i64 0)]):=⟨by kernel_rfl⟩
instance:TF Tryz.prog 56 [(0, 1), (1, 1), (2, 1), (3, 1), (4, 1)]:=⟨by kernel_rfl⟩
instance:TI Tryz.prog 57 (.struct [(0, 3), (1, 36), (2, 24)]) 3 40:=⟨by kernel_rfl, by kernel_rfl⟩
instance:TZ Tryz.prog 57 ([(.int .i64 0), (.int .i64 0), (.slice none 0 0)]):=⟨by kernel_rfl⟩
instance:TF Tryz.prog 57 [(0, 1), (1, 1), (2, 1)]:=⟨by kernel_rfl⟩
instance:TI Tryz.prog 59 (.struct [(0, 3), (1, 3), (2, 28), (42, 58)]) 45 200:=⟨by kernel_rfl, by kernel_rfl⟩
instance:TZ Tryz.prog 59 ([(.int .i64 0), (.int .i64 0), (.int .i64 0), (.int .i64 0), (.int .i64 0), (.int .i64 0), (.int .i64 0), (.int .u8 0), (.int .u8 0), (.int .u8 0), (.int .u8 0), (.int .u8 0), (.int .u8 0), (.int .u8 0), (.int .u8 0), (.int .u8 0), (.int .u8 0), (.int .u8 0), (.int .u8 0), (.int .u8 0), (.int .u8 0), (.int .u8 0), (.int .u8 0), (.int .u8 0), (.int .u8 0), (.int .u8 0), (.int .u8 0), (.int .u8 0), (.int .u8 0), (.int .u8 0), (.int .u8 0), (.int .u8 0), (.int .u8 0), (.int .u8 0), (.int .u8 0), (.int .u8 0), (.int .u8 0), (.int .u8 0), (.int .u8 0), (.slice none 0 0), (.slice none 0 0), (.slice none 0 0), (.int .i64 0), (.int .i64 0), (.slice none 0 0)]):=⟨by kernel_rfl⟩
instance:TF Tryz.prog 59 [(0, 1), (1, 1), (2, 40), (42, 3)]:=⟨by kernel_rfl⟩
instance:TZ Tryz.prog 60 ([(.int .i64 0), (.int .i64 0), (.int .i64 0), (.int .i64 0), (.int .i64 0), (.int .i64 0), (.int .i64 0), (.int .u8 0), (.int .u8 0), (.int .u8 0), (.int .u8 0), (.int .u8 0), (.int .u8 0), (.int .u8 0), (.int .u8 0), (.int .u8 0), (.int .u8 0), (.int .u8 0), (.int .u8 0), (.int .u8 0), (.int .u8 0), (.int .u8 0), (.int .u8 0), (.int .u8 0), (.int .u8 0), (.int .u8 0), (.int .u8 0), (.int .u8 0), (.int .u8 0), (.int .u8 0), (.int .u8 0), (.int .u8 0), (.int .u8 0), (.int .u8 0), (.int .u8 0), (.int .u8 0), (.int .u8 0), (.int .u8 0), (.int .u8 0), (.slice none 0 0), (.slice none 0 0), (.slice none 0 0), (.int .i64 0), (.int .i64 0), (.slice none 0 0)]):=⟨by kernel_rfl⟩
instance:TF Tryz.prog 60 [(0, 1), (1, 1), (2, 40), (42, 3)]:=⟨by kernel_rfl⟩
instance:TI Tryz.prog 62 (.other) 1 8:=⟨by kernel_rfl, by kernel_rfl⟩
instance:TI Tryz.prog 63 (.other) 1 8:=⟨by kernel_rfl, by kernel_rfl⟩
instance:TI Tryz.prog 64 (.other) 1 8:=⟨by kernel_rfl, by kernel_rfl⟩
instance:TI Tryz.prog 65 (.other) 1 8:=⟨by kernel_rfl, by kernel_rfl⟩
instance:TZ Tryz.prog 66 ([(.slice none 0 0)]):=⟨by kernel_rfl⟩
instance:TI Tryz.prog 67 (.other) 1 8:=⟨by kernel_rfl, by kernel_rfl⟩
instance:TI Tryz.prog 68 (.other) 1 8:=⟨by kernel_rfl, by kernel_rfl⟩
instance:TZ Tryz.prog 69 ([(.slice none 0 0)]):=⟨by kernel_rfl⟩
instance:TZ Tryz.prog 70 ([(.slice none 0 0)]):=⟨by kernel_rfl⟩
instance:TI Tryz.prog 71 (.struct [(0, 4), (1, 69), (2, 70), (3, 3)]) 4 64:=⟨by kernel_rfl, by kernel_rfl⟩
instance:TZ Tryz.prog 71 ([(.bool false), (.slice none 0 0), (.slice none 0 0), (.int .i64 0)]):=⟨by kernel_rfl⟩
instance:TF Tryz.prog 71 [(0, 1), (1, 1), (2, 1), (3, 1)]:=⟨by kernel_rfl⟩
instance:TI Tryz.prog 73 (.other) 1 8:=⟨by kernel_rfl, by kernel_rfl⟩
instance:TI Tryz.prog 74 (.other) 1 8:=⟨by kernel_rfl, by kernel_rfl⟩
instance:TZ Tryz.prog 75 ([(.slice none 0 0)]):=⟨by kernel_rfl⟩
instance:TI Tryz.prog 76 (.other) 1 8:=⟨by kernel_rfl, by kernel_rfl⟩
instance:TI Tryz.prog 77 (.struct [(0, 3), (1, 3), (2, 3)]) 3 24:=⟨by kernel_rfl, by kernel_rfl⟩
instance:TZ Tryz.prog 77 ([(.int .i64 0), (.int .i64 0), (.int .i64 0)]):=⟨by kernel_rfl⟩
instance:EqT Tryz.prog 77 ([(LK.int .i64), (LK.int .i64), (LK.int .i64)]):=⟨by kernel_rfl, by kernel_rfl⟩
instance:TF Tryz.prog 77 [(0, 1), (1, 1), (2, 1)]:=⟨by kernel_rfl⟩
instance:TI Tryz.prog 78 (.struct [(0, 3), (1, 3), (2, 3)]) 3 24:=⟨by kernel_rfl, by kernel_rfl⟩
instance:TZ Tryz.prog 78 ([(.int .i64 0), (.int .i64 0), (.int .i64 0)]):=⟨by kernel_rfl⟩
instance:EqT Tryz.prog 78 ([(LK.int .i64), (LK.int .i64), (LK.int .i64)]):=⟨by kernel_rfl, by kernel_rfl⟩
instance:TF Tryz.prog 78 [(0, 1), (1, 1), (2, 1)]:=⟨by kernel_rfl⟩
instance:TZ Tryz.prog 79 ([(.int .u64 0)]):=⟨by kernel_rfl⟩
instance:TI Tryz.prog 80 (.struct [(0, 3), (1, 3), (2, 9), (3, 78), (6, 79), (7, 28)]) 47 208:=⟨by kernel_rfl, by kernel_rfl⟩
instance:TZ Tryz.prog 80 ([(.int .i64 0), (.int .i64 0), (.string ByteArray.empty), (.int .i64 0), (.int .i64 0), (.int .i64 0), (.int .u64 0), (.int .i64 0), (.int .i64 0), (.int .i64 0), (.int .i64 0), (.int .i64 0), (.int .u8 0), (.int .u8 0), (.int .u8 0), (.int .u8 0), (.int .u8 0), (.int .u8 0), (.int .u8 0), (.int .u8 0), (.int .u8 0), (.int .u8 0), (.int .u8 0), (.int .u8 0), (.int .u8 0), (.int .u8 0), (.int .u8 0), (.int .u8 0), (.int .u8 0), (.int .u8 0), (.int .u8 0), (.int .u8 0), (.int .u8 0), (.int .u8 0), (.int .u8 0), (.int .u8 0), (.int .u8 0), (.int .u8 0), (.int .u8 0), (.int .u8 0), (.int .u8 0), (.int .u8 0), (.int .u8 0), (.int .u8 0), (.slice none 0 0), (.slice none 0 0), (.slice none 0 0)]):=⟨by kernel_rfl⟩
instance:TF Tryz.prog 80 [(0, 1), (1, 1), (2, 1), (3, 3), (6, 1), (7, 40)]:=⟨by kernel_rfl⟩
instance:TI Tryz.prog 81 (.struct [(0, 3), (1, 3), (2, 9), (3, 78), (6, 79), (7, 28)]) 47 208:=⟨by kernel_rfl, by kernel_rfl⟩
instance:TZ Tryz.prog 81 ([(.int .i64 0), (.int .i64 0), (.string ByteArray.empty), (.int .i64 0), (.int .i64 0), (.int .i64 0), (.int .u64 0), (.int .i64 0), (.int .i64 0), (.int .i64 0), (.int .i64 0), (.int .i64 0), (.int .u8 0), (.int .u8 0), (.int .u8 0), (.int .u8 0), (.int .u8 0), (.int .u8 0), (.int .u8 0), (.int .u8 0), (.int .u8 0), (.int .u8 0), (.int .u8 0), (.int .u8 0), (.int .u8 0), (.int .u8 0), (.int .u8 0), (.int .u8 0), (.int .u8 0), (.int .u8 0), (.int .u8 0), (.int .u8 0), (.int .u8 0), (.int .u8 0), (.int .u8 0), (.int .u8 0), (.int .u8 0), (.int .u8 0), (.int .u8 0), (.int .u8 0), (.int .u8 0), (.int .u8 0), (.int .u8 0), (.int .u8 0), (.slice none 0 0), (.slice none 0 0), (.slice none 0 0)]):=⟨by kernel_rfl⟩
instance:TF Tryz.prog 81 [(0, 1), (1, 1), (2, 1), (3, 3), (6, 1), (7, 40)]:=⟨by kernel_rfl⟩
instance:TI Tryz.prog 82 (.other) 1 8:=⟨by kernel_rfl, by kernel_rfl⟩
instance:TI Tryz.prog 83 (.other) 1 8:=⟨by kernel_rfl, by kernel_rfl⟩
instance:TI Tryz.prog 85 (.other) 1 8:=⟨by kernel_rfl, by kernel_rfl⟩
instance:TI Tryz.prog 86 (.struct [(0, 3), (1, 3), (2, 3)]) 3 24:=⟨by kernel_rfl, by kernel_rfl⟩
instance:TZ Tryz.prog 86 ([(.int .i64 0), (.int .i64 0), (.int .i64 0)]):=⟨by kernel_rfl⟩
instance:EqT Tryz.prog 86 ([(LK.int .i64), (LK.int .i64), (LK.int .i64)]):=⟨by kernel_rfl, by kernel_rfl⟩
instance:TF Tryz.prog 86 [(0, 1), (1, 1), (2, 1)]:=⟨by kernel_rfl⟩
instance:TI Tryz.prog 87 (.struct [(0, 3), (1, 3), (2, 9), (3, 86), (6, 79), (7, 34)]) 47 208:=⟨by kernel_rfl, by kernel_rfl⟩
instance:TZ Tryz.prog 87 ([(.int .i64 0), (.int .i64 0), (.string ByteArray.empty), (.int .i64 0), (.int .i64 0), (.int .i64 0), (.int .u64 0), (.int .i64 0), (.int .i64 0), (.int .i64 0), (.int .i64 0), (.int .i64 0), (.int .u8 0), (.int .u8 0), (.int .u8 0), (.int .u8 0), (.int .u8 0), (.int .u8 0), (.int .u8 0), (.int .u8 0), (.int .u8 0), (.int .u8 0), (.int .u8 0), (.int .u8 0), (.int .u8 0), (.int .u8 0), (.int .u8 0), (.int .u8 0), (.int .u8 0), (.int .u8 0), (.int .u8 0), (.int .u8 0), (.int .u8 0), (.int .u8 0), (.int .u8 0), (.int .u8 0), (.int .u8 0), (.int .u8 0), (.int .u8 0), (.int .u8 0), (.int .u8 0), (.int .u8 0), (.int .u8 0), (.int .u8 0), (.slice none 0 0), (.slice none 0 0), (.slice none 0 0)]):=⟨by kernel_rfl⟩
instance:TF Tryz.prog 87 [(0, 1), (1, 1), (2, 1), (3, 3), (6, 1), (7, 40)]:=⟨by kernel_rfl⟩
instance:TI Tryz.prog 88 (.struct [(0, 3), (1, 3), (2, 9), (3, 86), (6, 79), (7, 34)]) 47 208:=⟨by kernel_rfl, by kernel_rfl⟩
instance:TZ Tryz.prog 88 ([(.int .i64 0), (.int .i64 0), (.string ByteArray.empty), (.int .i64 0), (.int .i64 0), (.int .i64 0), (.int .u64 0), (.int .i64 0), (.int .i64 0), (.int .i64 0), (.int .i64 0), (.int .i64 0), (.int .u8 0), (.int .u8 0), (.int .u8 0), (.int .u8 0), (.int .u8 0), (.int .u8 0), (.int .u8 0), (.int .u8 0), (.int .u8 0), (.int .u8 0), (.int .u8 0), (.int .u8 0), (.int .u8 0), (.int .u8 0), (.int .u8 0), (.int .u8 0), (.int .u8 0), (.int .u8 0), (.int .u8 0), (.int .u8 0), (.int .u8 0), (.int .u8 0), (.int .u8 0), (.int .u8 0), (.int .u8 0), (.int .u8 0), (.int .u8 0), (.int .u8 0), (.int .u8 0), (.int .u8 0), (.int .u8 0), (.int .u8 0), (.slice none 0 0), (.slice none 0 0), (.slice none 0 0)]):=⟨by kernel_rfl⟩
instance:TF Tryz.prog 88 [(0, 1), (1, 1), (2, 1), (3, 3), (6, 1), (7, 40)]:=⟨by kernel_rfl⟩
instance:TI Tryz.prog 90 (.other) 1 8:=⟨by kernel_rfl, by kernel_rfl⟩
instance:TI Tryz.prog 91 (.other) 1 8:=⟨by kernel_rfl, by kernel_rfl⟩
instance:TI Tryz.prog 92 (.other) 1 8:=⟨by kernel_rfl, by kernel_rfl⟩
instance:TI Tryz.prog 93 (.other) 1 8:=⟨by kernel_rfl, by kernel_rfl⟩
instance:TI Tryz.prog 94 (.other) 1 8:=⟨by kernel_rfl, by kernel_rfl⟩
instance:TI Tryz.prog 95 (.other) 1 8:=⟨by kernel_rfl, by kernel_rfl⟩
instance:TI Tryz.prog 96 (.other) 1 8:=⟨by kernel_rfl, by kernel_rfl⟩
instance:TI Tryz.prog 97 (.int .u16) 1 2:=⟨by kernel_rfl, by kernel_rfl⟩
instance:TZ Tryz.prog 97 ([(.int .u16 0)]):=⟨by kernel_rfl⟩
instance:TI Tryz.prog 98 (.ptr 191) 1 8:=⟨by kernel_rfl, by kernel_rfl⟩
instance:TZ Tryz.prog 98 ([(.pointer none)]):=⟨by kernel_rfl⟩
instance:TI Tryz.prog 99 (.other) 1 8:=⟨by kernel_rfl, by kernel_rfl⟩
instance:TI Tryz.prog 100 (.other) 1 8:=⟨by kernel_rfl, by kernel_rfl⟩
instance:TI Tryz.prog 102 (.other) 1 8:=⟨by kernel_rfl, by kernel_rfl⟩
instance:TI Tryz.prog 103 (.other) 1 8:=⟨by kernel_rfl, by kernel_rfl⟩
instance:TI Tryz.prog 104 (.other) 1 8:=⟨by kernel_rfl, by kernel_rfl⟩
instance:TI Tryz.prog 105 (.other) 1 8:=⟨by kernel_rfl, by kernel_rfl⟩
instance:TI Tryz.prog 106 (.other) 1 8:=⟨by kernel_rfl, by kernel_rfl⟩
instance:TI Tryz.prog 107 (.other) 1 8:=⟨by kernel_rfl, by kernel_rfl⟩
instance:TI Tryz.prog 108 (.slice 111) 1 24:=⟨by kernel_rfl, by kernel_rfl⟩
instance:TZ Tryz.prog 108 ([(.slice none 0 0)]):=⟨by kernel_rfl⟩
instance:TI Tryz.prog 109 (.other) 1 8:=⟨by kernel_rfl, by kernel_rfl⟩
instance:TI Tryz.prog 110 (.struct [(0, 3), (1, 3), (2, 3), (3, 3), (4, 3), (5, 28)]) 45 184:=⟨by kernel_rfl, by kernel_rfl⟩
instance:TZ Tryz.prog 110 ([(.int .i64 0), (.int .i64 0), (.int .i64 0), (.int .i64 0), (.int .i64 0), (.int .i64 0), (.int .i64 0), (.int .i64 0), (.int .i64 0), (.int .i64 0), (.int .u8 0), (.int .u8 0), (.int .u8 0), (.int .u8 0), (.int .u8 0), (.int .u8 0), (.int .u8 0), (.int .u8 0), (.int .u8 0), (.int .u8 0), (.int .u8 0), (.int .u8 0), (.int .u8 0), (.int .u8 0), (.int .u8 0), (.int .u8 0), (.int .u8 0), (.int .u8 0), (.int .u8 0), (.int .u8 0), (.int .u8 0), (.int .u8 0), (.int .u8 0), (.int .u8 0), (.int .u8 0), (.int .u8 0), (.int .u8 0), (.int .u8 0), (.int .u8 0), (.int .u8 0), (.int .u8 0), (.int .u8 0), (.slice none 0 0), (.slice none 0 0), (.slice none 0 0)]):=⟨by kernel_rfl⟩
instance:TF Tryz.prog 110 [(0, 1), (1, 1), (2, 1), (3, 1), (4, 1), (5, 40)]:=⟨by kernel_rfl⟩
instance:TI Tryz.prog 111 (.struct [(0, 3), (1, 3), (2, 3), (3, 3), (4, 3), (5, 28)]) 45 184:=⟨by kernel_rfl, by kernel_rfl⟩
instance:TZ Tryz.prog 111 ([(.int .i64 0), (.int .i64 0), (.int .i64 0), (.int .i64 0), (.int .i64 0), (.int .i64 0), (.int .i64 0), (.int .i64 0), (.int .i64 0), (.int .i64 0), (.int .u8 0), (.int .u8 0), (.int .u8 0), (.int .u8 0), (.int .u8 0), (.int .u8 0), (.int .u8 0), (.int .u8 0), (.int .u8 0), (.int .u8 0), (.int .u8 0), (.int .u8 0), (.int .u8 0), (.int .u8 0), (.int .u8 0), (.int .u8 0), (.int .u8 0), (.int .u8 0), (.int .u8 0), (.int .u8 0), (.int .u8 0), (.int .u8 0), (.int .u8 0), (.int .u8 0), (.int .u8 0), (.int .u8 0), (.int .u8 0), (.int .u8 0), (.int .u8 0), (.int .u8 0), (.int .u8 0), (.int .u8 0), (.slice none 0 0), (.slice none 0 0), (.slice none 0 0)]):=⟨by kernel_rfl⟩
instance:TF Tryz.prog 111 [(0, 1), (1, 1), (2, 1), (3, 1), (4, 1), (5, 40)]:=⟨by kernel_rfl⟩
instance:TI Tryz.prog 112 (.other) 1 8:=⟨by kernel_rfl, by kernel_rfl⟩
instance:TI Tryz.prog 113 (.other) 1 8:=⟨by kernel_rfl, by kernel_rfl⟩
instance:TI Tryz.prog 114 (.other) 1 8:=⟨by kernel_rfl, by kernel_rfl⟩
instance:TI Tryz.prog 115 (.other) 1 8:=⟨by kernel_rfl, by kernel_rfl⟩
instance:TZ Tryz.prog 116 ([(.pointer none)]):=⟨by kernel_rfl⟩
instance:TI Tryz.prog 117 (.struct [(0, 29)]) 1 24:=⟨by kernel_rfl, by kernel_rfl⟩
instance:TZ Tryz.prog 117 ([(.slice none 0 0)]):=⟨by kernel_rfl⟩
instance:TF Tryz.prog 117 [(0, 1)]:=⟨by kernel_rfl⟩
instance:EqT Tryz.prog 119 ([(LK.int .i64), (LK.int .i64), (LK.int .i64), (LK.int .i64), (LK.int .i64)]):=⟨by kernel_rfl, by kernel_rfl⟩
instance:TI Tryz.prog 120 (.other) 1 8:=⟨by kernel_rfl, by kernel_rfl⟩
instance:TI Tryz.prog 121 (.other) 1 8:=⟨by kernel_rfl, by kernel_rfl⟩
instance:TI Tryz.prog 122 (.other) 1 8:=⟨by kernel_rfl, by kernel_rfl⟩
instance:TI Tryz.prog 123 (.other) 1 8:=⟨by kernel_rfl, by kernel_rfl⟩
instance:TZ Tryz.prog 124 ([(.pointer none)]):=⟨by kernel_rfl⟩
instance:TI Tryz.prog 125 (.other) 1 8:=⟨by kernel_rfl, by kernel_rfl⟩
instance:TI Tryz.prog 126 (.other) 1 8:=⟨by kernel_rfl, by kernel_rfl⟩
instance:TI Tryz.prog 127 (.other) 1 8:=⟨by kernel_rfl, by kernel_rfl⟩
instance:TI Tryz.prog 128 (.other) 1 8:=⟨by kernel_rfl, by kernel_rfl⟩
instance:TI Tryz.prog 129 (.ptr 28) 1 8:=⟨by kernel_rfl, by kernel_rfl⟩
instance:TZ Tryz.prog 129 ([(.pointer none)]):=⟨by kernel_rfl⟩
instance:TI Tryz.prog 131 (.other) 1 8:=⟨by kernel_rfl, by kernel_rfl⟩
instance:TI Tryz.prog 132 (.other) 1 8:=⟨by kernel_rfl, by kernel_rfl⟩
instance:TI Tryz.prog 133 (.ptr 135) 1 8:=⟨by kernel_rfl, by kernel_rfl⟩
instance:TZ Tryz.prog 133 ([(.pointer none)]):=⟨by kernel_rfl⟩
instance:TI Tryz.prog 134 (.struct [(0, 29), (1, 3), (2, 36)]) 3 40:=⟨by kernel_rfl, by kernel_rfl⟩
instance:TZ Tryz.prog 134 ([(.slice none 0 0), (.int .i64 0), (.int .i64 0)]):=⟨by kernel_rfl⟩
instance:TF Tryz.prog 134 [(0, 1), (1, 1), (2, 1)]:=⟨by kernel_rfl⟩
instance:TI Tryz.prog 135 (.struct [(0, 29), (1, 3), (2, 36)]) 3 40:=⟨by kernel_rfl, by kernel_rfl⟩
instance:TZ Tryz.prog 135 ([(.slice none 0 0), (.int .i64 0), (.int .i64 0)]):=⟨by kernel_rfl⟩
instance:TF Tryz.prog 135 [(0, 1), (1, 1), (2, 1)]:=⟨by kernel_rfl⟩
instance:TI Tryz.prog 137 (.other) 1 8:=⟨by kernel_rfl, by kernel_rfl⟩
instance:TI Tryz.prog 138 (.other) 1 8:=⟨by kernel_rfl, by kernel_rfl⟩
instance:TI Tryz.prog 139 (.other) 1 8:=⟨by kernel_rfl, by kernel_rfl⟩
instance:TI Tryz.prog 140 (.array 8 79) 8 64:=⟨by kernel_rfl, by kernel_rfl⟩
instance:TZ Tryz.prog 140 ([(.int .u64 0), (.int .u64 0), (.int .u64 0), (.int .u64 0), (.int .u64 0), (.int .u64 0), (.int .u64 0), (.int .u64 0)]):=⟨by kernel_rfl⟩
instance:EqT Tryz.prog 140 ([(LK.int .u64), (LK.int .u64), (LK.int .u64), (LK.int .u64), (LK.int .u64), (LK.int .u64), (LK.int .u64), (LK.int .u64)]):=⟨by kernel_rfl, by kernel_rfl⟩
instance:TZ Tryz.prog 142 ([(.slice none 0 0)]):=⟨by kernel_rfl⟩
instance:TI Tryz.prog 143 (.struct [(0, 141), (8, 142)]) 9 88:=⟨by kernel_rfl, by kernel_rfl⟩
instance:TZ Tryz.prog 143 ([(.int .u64 0), (.int .u64 0), (.int .u64 0), (.int .u64 0), (.int .u64 0), (.int .u64 0), (.int .u64 0), (.int .u64 0), (.slice none 0 0)]):=⟨by kernel_rfl⟩
instance:TF Tryz.prog 143 [(0, 8), (8, 1)]:=⟨by kernel_rfl⟩
instance:TI Tryz.prog 145 (.struct [(0, 9), (1, 144)]) 10 104:=⟨by kernel_rfl, by kernel_rfl⟩
instance:TZ Tryz.prog 145 ([(.string ByteArray.empty), (.int .u64 0), (.int .u64 0), (.int .u64 0), (.int .u64 0), (.int .u64 0), (.int .u64 0), (.int .u64 0), (.int .u64 0), (.slice none 0 0)]):=⟨by kernel_rfl⟩
instance:TF Tryz.prog 145 [(0, 1), (1, 9)]:=⟨by kernel_rfl⟩
instance:TI Tryz.prog 147 (.other) 1 8:=⟨by kernel_rfl, by kernel_rfl⟩
instance:TI Tryz.prog 148 (.other) 1 8:=⟨by kernel_rfl, by kernel_rfl⟩
instance:TI Tryz.prog 149 (.other) 1 8:=⟨by kernel_rfl, by kernel_rfl⟩
instance:TI Tryz.prog 150 (.other) 1 8:=⟨by kernel_rfl, by kernel_rfl⟩
instance:TI Tryz.prog 151 (.other) 1 8:=⟨by kernel_rfl, by kernel_rfl⟩
instance:TI Tryz.prog 152 (.other) 1 8:=⟨by kernel_rfl, by kernel_rfl⟩
instance:TI Tryz.prog 153 (.other) 1 8:=⟨by kernel_rfl, by kernel_rfl⟩
instance:TI Tryz.prog 154 (.other) 1 8:=⟨by kernel_rfl, by kernel_rfl⟩
instance:TI Tryz.prog 155 (.other) 1 8:=⟨by kernel_rfl, by kernel_rfl⟩
instance:TI Tryz.prog 156 (.other) 1 8:=⟨by kernel_rfl, by kernel_rfl⟩
instance:TI Tryz.prog 157 (.other) 1 8:=⟨by kernel_rfl, by kernel_rfl⟩
instance:TI Tryz.prog 158 (.other) 1 8:=⟨by kernel_rfl, by kernel_rfl⟩
instance:TI Tryz.prog 159 (.struct [(0, 3), (1, 36), (2, 24)]) 3 40:=⟨by kernel_rfl, by kernel_rfl⟩
instance:TZ Tryz.prog 159 ([(.int .i64 0), (.int .i64 0), (.slice none 0 0)]):=⟨by kernel_rfl⟩
instance:TF Tryz.prog 159 [(0, 1), (1, 1), (2, 1)]:=⟨by kernel_rfl⟩
instance:TI Tryz.prog 160 (.other) 1 8:=⟨by kernel_rfl, by kernel_rfl⟩
instance:TI Tryz.prog 161 (.other) 1 8:=⟨by kernel_rfl, by kernel_rfl⟩
instance:TI Tryz.prog 162 (.other) 1 8:=⟨by kernel_rfl, by kernel_rfl⟩
instance:TI Tryz.prog 164 (.other) 1 8:=⟨by kernel_rfl, by kernel_rfl⟩
instance:TI Tryz.prog 165 (.struct [(0, 28), (40, 3)]) 41 152:=⟨by kernel_rfl, by kernel_rfl⟩
instance:TZ Tryz.prog 165 ([(.int .i64 0), (.int .i64 0), (.int .i64 0), (.int .i64 0), (.int .i64 0), (.int .u8 0), (.int .u8 0), (.int .u8 0), (.int .u8 0), (.int .u8 0), (.int .u8 0), (.int .u8 0), (.int .u8 0), (.int .u8 0), (.int .u8 0), (.int .u8 0), (.int .u8 0), (.int .u8 0), (.int .u8 0), (.int .u8 0), (.int .u8 0), (.int .u8 0), (.int .u8 0), (.int .u8 0), (.int .u8 0), (.int .u8 0), (.int .u8 0), (.int .u8 0), (.int .u8 0), (.int .u8 0), (.int .u8 0), (.int .u8 0), (.int .u8 0), (.int .u8 0), (.int .u8 0), (.int .u8 0), (.int .u8 0), (.slice none 0 0), (.slice none 0 0), (.slice none 0 0), (.int .i64 0)]):=⟨by kernel_rfl⟩
instance:TF Tryz.prog 165 [(0, 40), (40, 1)]:=⟨by kernel_rfl⟩
instance:TI Tryz.prog 167 (.struct [(0, 58), (3, 3)]) 4 48:=⟨by kernel_rfl, by kernel_rfl⟩
instance:TZ Tryz.prog 167 ([(.int .i64 0), (.int .i64 0), (.slice none 0 0), (.int .i64 0)]):=⟨by kernel_rfl⟩
instance:TF Tryz.prog 167 [(0, 3), (3, 1)]:=⟨by kernel_rfl⟩
instance:TI Tryz.prog 169 (.other) 1 8:=⟨by kernel_rfl, by kernel_rfl⟩
instance:TI Tryz.prog 170 (.other) 1 8:=⟨by kernel_rfl, by kernel_rfl⟩
instance:TI Tryz.prog 172 (.other) 1 8:=⟨by kernel_rfl, by kernel_rfl⟩
instance:TI Tryz.prog 173 (.other) 1 8:=⟨by kernel_rfl, by kernel_rfl⟩
instance:TI Tryz.prog 174 (.other) 1 8:=⟨by kernel_rfl, by kernel_rfl⟩
instance:TI Tryz.prog 175 (.other) 1 8:=⟨by kernel_rfl, by kernel_rfl⟩
instance:TI Tryz.prog 176 (.other) 1 8:=⟨by kernel_rfl, by kernel_rfl⟩
instance:TI Tryz.prog 177 (.other) 1 8:=⟨by kernel_rfl, by kernel_rfl⟩
instance:TI Tryz.prog 178 (.other) 1 8:=⟨by kernel_rfl, by kernel_rfl⟩
instance:TI Tryz.prog 179 (.other) 1 8:=⟨by kernel_rfl, by kernel_rfl⟩
instance:TI Tryz.prog 180 (.other) 1 8:=⟨by kernel_rfl, by kernel_rfl⟩
instance:TI Tryz.prog 181 (.other) 1 8:=⟨by kernel_rfl, by kernel_rfl⟩
instance:TI Tryz.prog 182 (.other) 1 8:=⟨by kernel_rfl, by kernel_rfl⟩
instance:TI Tryz.prog 183 (.other) 1 8:=⟨by kernel_rfl, by kernel_rfl⟩
instance:TI Tryz.prog 184 (.other) 1 8:=⟨by kernel_rfl, by kernel_rfl⟩
instance:TI Tryz.prog 185 (.other) 1 8:=⟨by kernel_rfl, by kernel_rfl⟩
instance:TI Tryz.prog 186 (.slice 188) 1 24:=⟨by kernel_rfl, by kernel_rfl⟩
instance:TZ Tryz.prog 186 ([(.slice none 0 0)]):=⟨by kernel_rfl⟩
instance:TI Tryz.prog 187 (.other) 1 8:=⟨by kernel_rfl, by kernel_rfl⟩
instance:TI Tryz.prog 188 (.array 2 3) 2 16:=⟨by kernel_rfl, by kernel_rfl⟩
instance:TZ Tryz.prog 188 ([(.int .i64 0), (.int .i64 0)]):=⟨by kernel_rfl⟩
instance:EqT Tryz.prog 188 ([(LK.int .i64), (LK.int .i64)]):=⟨by kernel_rfl, by kernel_rfl⟩
instance:TI Tryz.prog 189 (.map 192 193) 1 8:=⟨by kernel_rfl, by kernel_rfl⟩
instance:TZ Tryz.prog 189 ([(.map none)]):=⟨by kernel_rfl⟩
instance:TI Tryz.prog 190 (.struct [(0, 189), (1, 3), (2, 3), (3, 3)]) 4 32:=⟨by kernel_rfl, by kernel_rfl⟩
instance:TZ Tryz.prog 190 ([(.map none), (.int .i64 0), (.int .i64 0), (.int .i64 0)]):=⟨by kernel_rfl⟩
instance:TF Tryz.prog 190 [(0, 1), (1, 1), (2, 1), (3, 1)]:=⟨by kernel_rfl⟩
instance:TI Tryz.prog 191 (.struct [(0, 189), (1, 3), (2, 3), (3, 3)]) 4 32:=⟨by kernel_rfl, by kernel_rfl⟩
instance:TZ Tryz.prog 191 ([(.map none), (.int .i64 0), (.int .i64 0), (.int .i64 0)]):=⟨by kernel_rfl⟩
instance:TF Tryz.prog 191 [(0, 1), (1, 1), (2, 1), (3, 1)]:=⟨by kernel_rfl⟩
instance:TI Tryz.prog 192 (.array 2 3) 2 16:=⟨by kernel_rfl, by kernel_rfl⟩
instance:TZ Tryz.prog 192 ([(.int .i64 0), (.int .i64 0)]):=⟨by kernel_rfl⟩
instance:EqT Tryz.prog 192 ([(LK.int .i64), (LK.int .i64)]):=⟨by kernel_rfl, by kernel_rfl⟩
instance:TZ Tryz.prog 193 ([(.slice none 0 0)]):=⟨by kernel_rfl⟩
instance:TI Tryz.prog 194 (.other) 1 8:=⟨by kernel_rfl, by kernel_rfl⟩
instance:TI Tryz.prog 195 (.other) 1 8:=⟨by kernel_rfl, by kernel_rfl⟩
instance:TI Tryz.prog 196 (.other) 1 8:=⟨by kernel_rfl, by kernel_rfl⟩
instance:TI Tryz.prog 197 (.slice 230) 1 24:=⟨by kernel_rfl, by kernel_rfl⟩
instance:TZ Tryz.prog 197 ([(.slice none 0 0)]):=⟨by kernel_rfl⟩
instance:TI Tryz.prog 198 (.struct [(0, 141), (8, 197)]) 9 88:=⟨by kernel_rfl, by kernel_rfl⟩
instance:TZ Tryz.prog 198 ([(.int .u64 0), (.int .u64 0), (.int .u64 0), (.int .u64 0), (.int .u64 0), (.int .u64 0), (.int .u64 0), (.int .u64 0), (.slice none 0 0)]):=⟨by kernel_rfl⟩
instance:TF Tryz.prog 198 [(0, 8), (8, 1)]:=⟨by kernel_rfl⟩
instance:TI Tryz.prog 199 (.struct [(0, 141), (8, 197)]) 9 88:=⟨by kernel_rfl, by kernel_rfl⟩
instance:TZ Tryz.prog 199 ([(.int .u64 0), (.int .u64 0), (.int .u64 0), (.int .u64 0), (.int .u64 0), (.int .u64 0), (.int .u64 0), (.int .u64 0), (.slice none 0 0)]):=⟨by kernel_rfl⟩
instance:TF Tryz.prog 199 [(0, 8), (8, 1)]:=⟨by kernel_rfl⟩
instance:TI Tryz.prog 200 (.other) 1 8:=⟨by kernel_rfl, by kernel_rfl⟩
instance:TI Tryz.prog 201 (.struct [(0, 9), (1, 199)]) 10 104:=⟨by kernel_rfl, by kernel_rfl⟩
instance:TZ Tryz.prog 201 ([(.string ByteArray.empty), (.int .u64 0), (.int .u64 0), (.int .u64 0), (.int .u64 0), (.int .u64 0), (.int .u64 0), (.int .u64 0), (.int .u64 0), (.slice none 0 0)]):=⟨by kernel_rfl⟩
instance:TF Tryz.prog 201 [(0, 1), (1, 9)]:=⟨by kernel_rfl⟩
instance:TI Tryz.prog 202 (.struct [(0, 9), (1, 199)]) 10 104:=⟨by kernel_rfl, by kernel_rfl⟩
instance:TZ Tryz.prog 202 ([(.string ByteArray.empty), (.int .u64 0), (.int .u64 0), (.int .u64 0), (.int .u64 0), (.int .u64 0), (.int .u64 0), (.int .u64 0), (.int .u64 0), (.slice none 0 0)]):=⟨by kernel_rfl⟩
instance:TF Tryz.prog 202 [(0, 1), (1, 9)]:=⟨by kernel_rfl⟩
instance:TZ Tryz.prog 203 ([(.int .u64 0)]):=⟨by kernel_rfl⟩
instance:TI Tryz.prog 204 (.other) 1 8:=⟨by kernel_rfl, by kernel_rfl⟩
instance:TI Tryz.prog 205 (.struct [(0, 4), (1, 29), (2, 36)]) 3 40:=⟨by kernel_rfl, by kernel_rfl⟩
instance:TZ Tryz.prog 205 ([(.bool false), (.slice none 0 0), (.int .i64 0)]):=⟨by kernel_rfl⟩
instance:TF Tryz.prog 205 [(0, 1), (1, 1), (2, 1)]:=⟨by kernel_rfl⟩
instance:TI Tryz.prog 207 (.other) 1 8:=⟨by kernel_rfl, by kernel_rfl⟩
instance:TI Tryz.prog 208 (.other) 1 8:=⟨by kernel_rfl, by kernel_rfl⟩
instance:TI Tryz.prog 209 (.other) 1 8:=⟨by kernel_rfl, by kernel_rfl⟩
instance:TI Tryz.prog 210 (.other) 1 8:=⟨by kernel_rfl, by kernel_rfl⟩
instance:TI Tryz.prog 211 (.other) 1 8:=⟨by kernel_rfl, by kernel_rfl⟩
instance:TI Tryz.prog 212 (.other) 1 8:=⟨by kernel_rfl, by kernel_rfl⟩
instance:TI Tryz.prog 213 (.other) 1 8:=⟨by kernel_rfl, by kernel_rfl⟩
instance:TI Tryz.prog 214 (.other) 1 8:=⟨by kernel_rfl, by kernel_rfl⟩
instance:TI Tryz.prog 215 (.other) 1 8:=⟨by kernel_rfl, by kernel_rfl⟩
instance:TI Tryz.prog 216 (.struct [(0, 3), (1, 3), (2, 79), (3, 3)]) 4 32:=⟨by kernel_rfl, by kernel_rfl⟩
instance:TZ Tryz.prog 216 ([(.int .i64 0), (.int .i64 0), (.int .u64 0), (.int .i64 0)]):=⟨by kernel_rfl⟩
instance:EqT Tryz.prog 216 ([(LK.int .i64), (LK.int .i64), (LK.int .u64), (LK.int .i64)]):=⟨by kernel_rfl, by kernel_rfl⟩
instance:TF Tryz.prog 216 [(0, 1), (1, 1), (2, 1), (3, 1)]:=⟨by kernel_rfl⟩
instance:TI Tryz.prog 218 (.other) 1 8:=⟨by kernel_rfl, by kernel_rfl⟩
instance:TI Tryz.prog 219 (.other) 1 8:=⟨by kernel_rfl, by kernel_rfl⟩
instance:TI Tryz.prog 220 (.other) 1 8:=⟨by kernel_rfl, by kernel_rfl⟩
instance:TI Tryz.prog 221 (.other) 1 8:=⟨by kernel_rfl, by kernel_rfl⟩
instance:TI Tryz.prog 222 (.other) 1 8:=⟨by kernel_rfl, by kernel_rfl⟩
instance:TI Tryz.prog 223 (.other) 1 8:=⟨by kernel_rfl, by kernel_rfl⟩
instance:TI Tryz.prog 224 (.other) 1 8:=⟨by kernel_rfl, by kernel_rfl⟩
instance:TI Tryz.prog 225 (.other) 1 8:=⟨by kernel_rfl, by kernel_rfl⟩
instance:TI Tryz.prog 226 (.other) 1 8:=⟨by kernel_rfl, by kernel_rfl⟩
instance:TI Tryz.prog 227 (.other) 1 8:=⟨by kernel_rfl, by kernel_rfl⟩
instance:TI Tryz.prog 228 (.other) 1 8:=⟨by kernel_rfl, by kernel_rfl⟩
instance:TI Tryz.prog 229 (.other) 1 8:=⟨by kernel_rfl, by kernel_rfl⟩
instance:TI Tryz.prog 230 (.struct [(0, 3), (1, 3), (2, 79), (3, 3)]) 4 32:=⟨by kernel_rfl, by kernel_rfl⟩
instance:TZ Tryz.prog 230 ([(.int .i64 0), (.int .i64 0), (.int .u64 0), (.int .i64 0)]):=⟨by kernel_rfl⟩
instance:EqT Tryz.prog 230 ([(LK.int .i64), (LK.int .i64), (LK.int .u64), (LK.int .i64)]):=⟨by kernel_rfl, by kernel_rfl⟩
instance:TF Tryz.prog 230 [(0, 1), (1, 1), (2, 1), (3, 1)]:=⟨by kernel_rfl⟩
instance:TI Tryz.prog 231 (.other) 1 8:=⟨by kernel_rfl, by kernel_rfl⟩
instance:TI Tryz.prog 232 (.other) 1 8:=⟨by kernel_rfl, by kernel_rfl⟩
instance:TI Tryz.prog 233 (.other) 1 8:=⟨by kernel_rfl, by kernel_rfl⟩
instance:TI Tryz.prog 234 (.other) 1 8:=⟨by kernel_rfl, by kernel_rfl⟩
instance:TI Tryz.prog 235 (.other) 1 8:=⟨by kernel_rfl, by kernel_rfl⟩
instance:TI Tryz.prog 236 (.other) 1 8:=⟨by kernel_rfl, by kernel_rfl⟩
instance:TI Tryz.prog 237 (.other) 1 8:=⟨by kernel_rfl, by kernel_rfl⟩
instance:TI Tryz.prog 238 (.struct [(0, 3), (1, 79)]) 2 16:=⟨by kernel_rfl, by kernel_rfl⟩
instance:TZ Tryz.prog 238 ([(.int .i64 0), (.int .u64 0)]):=⟨by kernel_rfl⟩
instance:EqT Tryz.prog 238 ([(LK.int .i64), (LK.int .u64)]):=⟨by kernel_rfl, by kernel_rfl⟩
instance:TF Tryz.prog 238 [(0, 1), (1, 1)]:=⟨by kernel_rfl⟩
instance:TI Tryz.prog 240 (.other) 1 8:=⟨by kernel_rfl, by kernel_rfl⟩
instance:TI Tryz.prog 241 (.other) 1 8:=⟨by kernel_rfl, by kernel_rfl⟩
instance:TI Tryz.prog 243 (.other) 1 8:=⟨by kernel_rfl, by kernel_rfl⟩
instance:TI Tryz.prog 244 (.other) 1 8:=⟨by kernel_rfl, by kernel_rfl⟩
instance:TI Tryz.prog 245 (.other) 1 8:=⟨by kernel_rfl, by kernel_rfl⟩
instance:TI Tryz.prog 246 (.other) 1 8:=⟨by kernel_rfl, by kernel_rfl⟩
instance:TI Tryz.prog 247 (.slice 193) 1 24:=⟨by kernel_rfl, by kernel_rfl⟩
instance:TZ Tryz.prog 247 ([(.slice none 0 0)]):=⟨by kernel_rfl⟩
instance:TI Tryz.prog 248 (.other) 1 8:=⟨by kernel_rfl, by kernel_rfl⟩
instance:TI Tryz.prog 249 (.other) 1 8:=⟨by kernel_rfl, by kernel_rfl⟩
instance:TI Tryz.prog 250 (.struct [(0, 3), (1, 79)]) 2 16:=⟨by kernel_rfl, by kernel_rfl⟩
instance:TZ Tryz.prog 250 ([(.int .i64 0), (.int .u64 0)]):=⟨by kernel_rfl⟩
instance:EqT Tryz.prog 250 ([(LK.int .i64), (LK.int .u64)]):=⟨by kernel_rfl, by kernel_rfl⟩
instance:TF Tryz.prog 250 [(0, 1), (1, 1)]:=⟨by kernel_rfl⟩
instance:TI Tryz.prog 251 (.other) 1 8:=⟨by kernel_rfl, by kernel_rfl⟩
instance:TI Tryz.prog 252 (.other) 1 8:=⟨by kernel_rfl, by kernel_rfl⟩
instance:TI Tryz.prog 253 (.other) 1 8:=⟨by kernel_rfl, by kernel_rfl⟩
instance:TI Tryz.prog 254 (.other) 1 8:=⟨by kernel_rfl, by kernel_rfl⟩
instance:TI Tryz.prog 255 (.other) 1 8:=⟨by kernel_rfl, by kernel_rfl⟩
instance:TI Tryz.prog 256 (.other) 1 8:=⟨by kernel_rfl, by kernel_rfl⟩
instance:TI Tryz.prog 257 (.other) 1 8:=⟨by kernel_rfl, by kernel_rfl⟩
instance:TI Tryz.prog 258 (.other) 1 8:=⟨by kernel_rfl, by kernel_rfl⟩
instance:TI Tryz.prog 259 (.other) 1 8:=⟨by kernel_rfl, by kernel_rfl⟩
instance:TI Tryz.prog 260 (.int .i64) 1 8:=⟨by kernel_rfl, by kernel_rfl⟩
instance:TZ Tryz.prog 260 ([(.int .i64 0)]):=⟨by kernel_rfl⟩
instance:TI Tryz.prog 262 (.other) 1 8:=⟨by kernel_rfl, by kernel_rfl⟩
instance:TI Tryz.prog 263 (.other) 1 8:=⟨by kernel_rfl, by kernel_rfl⟩
instance:TI Tryz.prog 264 (.other) 1 8:=⟨by kernel_rfl, by kernel_rfl⟩
instance:TI Tryz.prog 266 (.other) 1 8:=⟨by kernel_rfl, by kernel_rfl⟩
instance:TI Tryz.prog 267 (.other) 1 8:=⟨by kernel_rfl, by kernel_rfl⟩
instance:TZ Tryz.prog 268 ([(.int .u32 0)]):=⟨by kernel_rfl⟩
instance:TI Tryz.prog 269 (.other) 1 8:=⟨by kernel_rfl, by kernel_rfl⟩
instance:TI Tryz.prog 270 (.other) 1 8:=⟨by kernel_rfl, by kernel_rfl⟩
instance:TI Tryz.prog 271 (.other) 1 8:=⟨by kernel_rfl, by kernel_rfl⟩
instance:TI Tryz.prog 272 (.other) 1 8:=⟨by kernel_rfl, by kernel_rfl⟩
instance:TI Tryz.prog 273 (.other) 1 8:=⟨by kernel_rfl, by kernel_rfl⟩
instance:TI Tryz.prog 274 (.other) 1 8:=⟨by kernel_rfl, by kernel_rfl⟩
instance:TI Tryz.prog 275 (.other) 1 8:=⟨by kernel_rfl, by kernel_rfl⟩
instance:TI Tryz.prog 276 (.other) 1 8:=⟨by kernel_rfl, by kernel_rfl⟩
instance:TI Tryz.prog 277 (.other) 1 8:=⟨by kernel_rfl, by kernel_rfl⟩
instance:TI Tryz.prog 278 (.other) 1 8:=⟨by kernel_rfl, by kernel_rfl⟩
instance:TI Tryz.prog 279 (.int .u64) 1 8:=⟨by kernel_rfl, by kernel_rfl⟩
instance:TZ Tryz.prog 279 ([(.int .u64 0)]):=⟨by kernel_rfl⟩
instance:TI Tryz.prog 280 (.other) 1 8:=⟨by kernel_rfl, by kernel_rfl⟩
instance:TI Tryz.prog 281 (.other) 1 8:=⟨by kernel_rfl, by kernel_rfl⟩
instance:TI Tryz.prog 282 (.ptr 3) 1 8:=⟨by kernel_rfl, by kernel_rfl⟩
instance:TZ Tryz.prog 282 ([(.pointer none)]):=⟨by kernel_rfl⟩
instance:TI Tryz.prog 283 (.other) 1 8:=⟨by kernel_rfl, by kernel_rfl⟩
instance:TI Tryz.prog 284 (.other) 1 8:=⟨by kernel_rfl, by kernel_rfl⟩
instance:TI Tryz.prog 285 (.other) 1 8:=⟨by kernel_rfl, by kernel_rfl⟩
instance:TI Tryz.prog 286 (.other) 1 8:=⟨by kernel_rfl, by kernel_rfl⟩
instance:TI Tryz.prog 287 (.other) 1 8:=⟨by kernel_rfl, by kernel_rfl⟩
instance:TI Tryz.prog 288 (.array 64 79) 64 512:=⟨by kernel_rfl, by kernel_rfl⟩
instance:TZ Tryz.prog 288 (List.replicate 64 (.int .u64 0)):=⟨by kernel_rfl⟩
instance:EqT Tryz.prog 288 (List.replicate 64 (LK.int .u64)):=⟨by kernel_rfl, by kernel_rfl⟩
instance:TI Tryz.prog 289 (.other) 1 8:=⟨by kernel_rfl, by kernel_rfl⟩
instance:TI Tryz.prog 290 (.other) 1 8:=⟨by kernel_rfl, by kernel_rfl⟩
instance:TI Tryz.prog 291 (.slice 79) 1 24:=⟨by kernel_rfl, by kernel_rfl⟩
instance:TZ Tryz.prog 291 ([(.slice none 0 0)]):=⟨by kernel_rfl⟩
instance:TI Tryz.prog 292 (.other) 1 8:=⟨by kernel_rfl, by kernel_rfl⟩
instance:TI Tryz.prog 293 (.ptr 279) 1 8:=⟨by kernel_rfl, by kernel_rfl⟩
instance:TZ Tryz.prog 293 ([(.pointer none)]):=⟨by kernel_rfl⟩
instance:TI Tryz.prog 294 (.other) 1 8:=⟨by kernel_rfl, by kernel_rfl⟩
instance:TI Tryz.prog 295 (.array 8 268) 8 32:=⟨by kernel_rfl, by kernel_rfl⟩
instance:TZ Tryz.prog 295 ([(.int .u32 0), (.int .u32 0), (.int .u32 0), (.int .u32 0), (.int .u32 0), (.int .u32 0), (.int .u32 0), (.int .u32 0)]):=⟨by kernel_rfl⟩
instance:EqT Tryz.prog 295 ([(LK.int .u32), (LK.int .u32), (LK.int .u32), (LK.int .u32), (LK.int .u32), (LK.int .u32), (LK.int .u32), (LK.int .u32)]):=⟨by kernel_rfl, by kernel_rfl⟩
instance:EqT Tryz.prog 296 ([(LK.int .u32), (LK.int .u32), (LK.int .u32), (LK.int .u32), (LK.int .u32), (LK.int .u32), (LK.int .u32), (LK.int .u32)]):=⟨by kernel_rfl, by kernel_rfl⟩
instance:TI Tryz.prog 297 (.other) 1 8:=⟨by kernel_rfl, by kernel_rfl⟩
instance:TI Tryz.prog 298 (.other) 1 8:=⟨by kernel_rfl, by kernel_rfl⟩
instance:TI Tryz.prog 299 (.other) 1 8:=⟨by kernel_rfl, by kernel_rfl⟩
instance:TI Tryz.prog 300 (.other) 1 8:=⟨by kernel_rfl, by kernel_rfl⟩
instance:TI Tryz.prog 301 (.other) 1 8:=⟨by kernel_rfl, by kernel_rfl⟩
instance:TI Tryz.prog 302 (.other) 1 8:=⟨by kernel_rfl, by kernel_rfl⟩
instance:TI Tryz.prog 303 (.other) 1 8:=⟨by kernel_rfl, by kernel_rfl⟩
instance:TI Tryz.prog 304 (.other) 1 8:=⟨by kernel_rfl, by kernel_rfl⟩
instance:TI Tryz.prog 305 (.other) 1 8:=⟨by kernel_rfl, by kernel_rfl⟩
instance:TI Tryz.prog 306 (.other) 1 8:=⟨by kernel_rfl, by kernel_rfl⟩
instance:EqT Tryz.prog 307 (List.replicate 64 (LK.int .u32)):=⟨by kernel_rfl, by kernel_rfl⟩
instance:TI Tryz.prog 308 (.other) 1 8:=⟨by kernel_rfl, by kernel_rfl⟩
instance:TI Tryz.prog 309 (.other) 1 8:=⟨by kernel_rfl, by kernel_rfl⟩
instance:TI Tryz.prog 310 (.other) 1 8:=⟨by kernel_rfl, by kernel_rfl⟩
instance:TI Tryz.prog 311 (.other) 1 8:=⟨by kernel_rfl, by kernel_rfl⟩
instance:TI Tryz.prog 312 (.other) 1 8:=⟨by kernel_rfl, by kernel_rfl⟩
instance:TI Tryz.prog 313 (.other) 1 8:=⟨by kernel_rfl, by kernel_rfl⟩
instance:TI Tryz.prog 314 (.other) 1 8:=⟨by kernel_rfl, by kernel_rfl⟩
instance:TI Tryz.prog 315 (.other) 1 8:=⟨by kernel_rfl, by kernel_rfl⟩
instance:TI Tryz.prog 316 (.other) 1 8:=⟨by kernel_rfl, by kernel_rfl⟩
instance:TI Tryz.prog 317 (.other) 1 8:=⟨by kernel_rfl, by kernel_rfl⟩
instance:TI Tryz.prog 318 (.other) 1 8:=⟨by kernel_rfl, by kernel_rfl⟩
instance:TI Tryz.prog 319 (.other) 1 8:=⟨by kernel_rfl, by kernel_rfl⟩
instance:TI Tryz.prog 320 (.other) 1 8:=⟨by kernel_rfl, by kernel_rfl⟩
instance:TI Tryz.prog 321 (.struct [(0, 17), (1, 17), (2, 17), (3, 9)]) 4 40:=⟨by kernel_rfl, by kernel_rfl⟩
instance:TZ Tryz.prog 321 ([(.pointer none), (.pointer none), (.pointer none), (.string ByteArray.empty)]):=⟨by kernel_rfl⟩
instance:TF Tryz.prog 321 [(0, 1), (1, 1), (2, 1), (3, 1)]:=⟨by kernel_rfl⟩
instance:TI Tryz.prog 322 (.struct [(0, 17), (1, 17), (2, 17), (3, 9)]) 4 40:=⟨by kernel_rfl, by kernel_rfl⟩
instance:TZ Tryz.prog 322 ([(.pointer none), (.pointer none), (.pointer none), (.string ByteArray.empty)]):=⟨by kernel_rfl⟩
instance:TF Tryz.prog 322 [(0, 1), (1, 1), (2, 1), (3, 1)]:=⟨by kernel_rfl⟩
instance:TI Tryz.prog 323 (.array 0 16) 0 0:=⟨by kernel_rfl, by kernel_rfl⟩
instance:TZ Tryz.prog 323 ([]):=⟨by kernel_rfl⟩
instance:TI Tryz.prog 324 (.struct [(0, 323)]) 0 0:=⟨by kernel_rfl, by kernel_rfl⟩
instance:TZ Tryz.prog 324 ([]):=⟨by kernel_rfl⟩
instance:TF Tryz.prog 324 [(0, 0)]:=⟨by kernel_rfl⟩
instance:TI Tryz.prog 325 (.struct [(0, 323)]) 0 0:=⟨by kernel_rfl, by kernel_rfl⟩
instance:TZ Tryz.prog 325 ([]):=⟨by kernel_rfl⟩
instance:TF Tryz.prog 325 [(0, 0)]:=⟨by kernel_rfl⟩
instance:TI Tryz.prog 326 (.int .u8) 1 1:=⟨by kernel_rfl, by kernel_rfl⟩
instance:TZ Tryz.prog 326 ([(.int .u8 0)]):=⟨by kernel_rfl⟩
instance:TI Tryz.prog 327 (.int .u8) 1 1:=⟨by kernel_rfl, by kernel_rfl⟩
instance:TZ Tryz.prog 327 ([(.int .u8 0)]):=⟨by kernel_rfl⟩
instance:TI Tryz.prog 328 (.other) 1 8:=⟨by kernel_rfl, by kernel_rfl⟩
instance:TI Tryz.prog 329 (.ptr 5) 1 8:=⟨by kernel_rfl, by kernel_rfl⟩
instance:TZ Tryz.prog 329 ([(.pointer none)]):=⟨by kernel_rfl⟩
instance:TI Tryz.prog 330 (.int .i32) 1 4:=⟨by kernel_rfl, by kernel_rfl⟩
instance:TZ Tryz.prog 330 ([(.int .i32 0)]):=⟨by kernel_rfl⟩
instance:TI Tryz.prog 331 (.int .i32) 1 4:=⟨by kernel_rfl, by kernel_rfl⟩
instance:TZ Tryz.prog 331 ([(.int .i32 0)]):=⟨by kernel_rfl⟩
instance:TI Tryz.prog 332 (.struct [(0, 12), (1, 12), (2, 268), (3, 326), (4, 5), (5, 5), (6, 327), (7, 328), (8, 329), (9, 330), (10, 331)]) 11 48:=⟨by kernel_rfl, by kernel_rfl⟩
instance:TZ Tryz.prog 332 ([(.int .u64 0), (.int .u64 0), (.int .u32 0), (.int .u8 0), (.int .u8 0), (.int .u8 0), (.int .u8 0), .nilFunc, (.pointer none), (.int .i32 0), (.int .i32 0)]):=⟨by kernel_rfl⟩
instance:TF Tryz.prog 332 [(0, 1), (1, 1), (2, 1), (3, 1), (4, 1), (5, 1), (6, 1), (7, 1), (8, 1), (9, 1), (10, 1)]:=⟨by kernel_rfl⟩
instance:TI Tryz.prog 333 (.struct [(0, 12), (1, 12), (2, 268), (3, 326), (4, 5), (5, 5), (6, 327), (7, 328), (8, 329), (9, 330), (10, 331)]) 11 48:=⟨by kernel_rfl, by kernel_rfl⟩
instance:TZ Tryz.prog 333 ([(.int .u64 0), (.int .u64 0), (.int .u32 0), (.int .u8 0), (.int .u8 0), (.int .u8 0), (.int .u8 0), .nilFunc, (.pointer none), (.int .i32 0), (.int .i32 0)]):=⟨by kernel_rfl⟩
instance:TF Tryz.prog 333 [(0, 1), (1, 1), (2, 1), (3, 1), (4, 1), (5, 1), (6, 1), (7, 1), (8, 1), (9, 1), (10, 1)]:=⟨by kernel_rfl⟩
instance:TI Tryz.prog 334 (.other) 1 8:=⟨by kernel_rfl, by kernel_rfl⟩
instance:TZ Tryz.prog 334 ([(.pointer none)]):=⟨by kernel_rfl⟩
instance:FnT Tryz.prog 3:=⟨_, Tryz.func3, by kernel_rfl, by kernel_rfl⟩
instance:FnT Tryz.prog 4:=⟨_, Tryz.func4, by kernel_rfl, by kernel_rfl⟩
instance:FnT Tryz.prog 5:=⟨_, Tryz.func5, by kernel_rfl, by kernel_rfl⟩
instance:FnT Tryz.prog 6:=⟨_, Tryz.func6, by kernel_rfl, by kernel_rfl⟩
instance:FnT Tryz.prog 7:=⟨_, Tryz.func7, by kernel_rfl, by kernel_rfl⟩
instance:FnT Tryz.prog 8:=⟨_, Tryz.func8, by kernel_rfl, by kernel_rfl⟩
instance:FnT Tryz.prog 9:=⟨_, Tryz.func9, by kernel_rfl, by kernel_rfl⟩
instance:FnT Tryz.prog 11:=⟨_, Tryz.func11, by kernel_rfl, by kernel_rfl⟩
instance:FnT Tryz.prog 12:=⟨_, Tryz.func12, by kernel_rfl, by kernel_rfl⟩
instance:FnT Tryz.prog 15:=⟨_, Tryz.func15, by kernel_rfl, by kernel_rfl⟩
instance:FnT Tryz.prog 17:=⟨_, Tryz.func17, by kernel_rfl, by kernel_rfl⟩
instance:FnT Tryz.prog 19:=⟨_, Tryz.func19, by kernel_rfl, by kernel_rfl⟩
instance:FnT Tryz.prog 20:=⟨_, Tryz.func20, by kernel_rfl, by kernel_rfl⟩
instance:FnT Tryz.prog 21:=⟨_, Tryz.func21, by kernel_rfl, by kernel_rfl⟩
instance:FnT Tryz.prog 22:=⟨_, Tryz.func22, by kernel_rfl, by kernel_rfl⟩
instance:FnT Tryz.prog 23:=⟨_, Tryz.func23, by kernel_rfl, by kernel_rfl⟩
instance:FnT Tryz.prog 27:=⟨_, Tryz.func27, by kernel_rfl, by kernel_rfl⟩
instance:FnT Tryz.prog 28:=⟨_, Tryz.func28, by kernel_rfl, by kernel_rfl⟩
instance:FnT Tryz.prog 30:=⟨_, Tryz.func30, by kernel_rfl, by kernel_rfl⟩
instance:FnT Tryz.prog 35:=⟨_, Tryz.func35, by kernel_rfl, by kernel_rfl⟩
instance:FnT Tryz.prog 36:=⟨_, Tryz.func36, by kernel_rfl, by kernel_rfl⟩
instance:FnT Tryz.prog 37:=⟨_, Tryz.func37, by kernel_rfl, by kernel_rfl⟩
instance:FnT Tryz.prog 38:=⟨_, Tryz.func38, by kernel_rfl, by kernel_rfl⟩
instance:FnT Tryz.prog 39:=⟨_, Tryz.func39, by kernel_rfl, by kernel_rfl⟩
instance:FnT Tryz.prog 40:=⟨_, Tryz.func40, by kernel_rfl, by kernel_rfl⟩
instance:FnT Tryz.prog 41:=⟨_, Tryz.func41, by kernel_rfl, by kernel_rfl⟩
instance:FnT Tryz.prog 42:=⟨_, Tryz.func42, by kernel_rfl, by kernel_rfl⟩
instance:FnT Tryz.prog 43:=⟨_, Tryz.func43, by kernel_rfl, by kernel_rfl⟩
instance:FnT Tryz.prog 44:=⟨_, Tryz.func44, by kernel_rfl, by kernel_rfl⟩
instance:FnT Tryz.prog 45:=⟨_, Tryz.func45, by kernel_rfl, by kernel_rfl⟩
instance:FnT Tryz.prog 46:=⟨_, Tryz.func46, by kernel_rfl, by kernel_rfl⟩
instance:FnT Tryz.prog 47:=⟨_, Tryz.func47, by kernel_rfl, by kernel_rfl⟩
instance:FnT Tryz.prog 48:=⟨_, Tryz.func48, by kernel_rfl, by kernel_rfl⟩
instance:FnT Tryz.prog 49:=⟨_, Tryz.func49, by kernel_rfl, by kernel_rfl⟩
instance:FnT Tryz.prog 50:=⟨_, Tryz.func50, by kernel_rfl, by kernel_rfl⟩
instance:FnT Tryz.prog 51:=⟨_, Tryz.func51, by kernel_rfl, by kernel_rfl⟩
instance:FnT Tryz.prog 52:=⟨_, Tryz.func52, by kernel_rfl, by kernel_rfl⟩
instance:FnT Tryz.prog 53:=⟨_, Tryz.func53, by kernel_rfl, by kernel_rfl⟩
instance:FnT Tryz.prog 54:=⟨_, Tryz.func54, by kernel_rfl, by kernel_rfl⟩
instance:FnT Tryz.prog 55:=⟨_, Tryz.func55, by kernel_rfl, by kernel_rfl⟩
instance:FnT Tryz.prog 56:=⟨_, Tryz.func56, by kernel_rfl, by kernel_rfl⟩
instance:FnT Tryz.prog 57:=⟨_, Tryz.func57, by kernel_rfl, by kernel_rfl⟩
instance:FnT Tryz.prog 59:=⟨_, Tryz.func59, by kernel_rfl, by kernel_rfl⟩
instance:FnT Tryz.prog 71:=⟨_, Tryz.func71, by kernel_rfl, by kernel_rfl⟩
instance:FnT Tryz.prog 72:=⟨_, Tryz.func72, by kernel_rfl, by kernel_rfl⟩
instance:FnT Tryz.prog 73:=⟨_, Tryz.func73, by kernel_rfl, by kernel_rfl⟩
instance:FnT Tryz.prog 81:=⟨_, Tryz.func81, by kernel_rfl, by kernel_rfl⟩
instance:FnT Tryz.prog 87:=⟨_, Tryz.func87, by kernel_rfl, by kernel_rfl⟩
instance:FnT Tryz.prog 88:=⟨_, Tryz.func88, by kernel_rfl, by kernel_rfl⟩
instance:FnT Tryz.prog 89:=⟨_, Tryz.func89, by kernel_rfl, by kernel_rfl⟩
instance:FnT Tryz.prog 90:=⟨_, Tryz.func90, by kernel_rfl, by kernel_rfl⟩
instance:FnT Tryz.prog 91:=⟨_, Tryz.func91, by kernel_rfl, by kernel_rfl⟩
instance:FnT Tryz.prog 92:=⟨_, Tryz.func92, by kernel_rfl, by kernel_rfl⟩
instance:FnT Tryz.prog 93:=⟨_, Tryz.func93, by kernel_rfl, by kernel_rfl⟩
instance:FnT Tryz.prog 94:=⟨_, Tryz.func94, by kernel_rfl, by kernel_rfl⟩
instance:FnT Tryz.prog 95:=⟨_, Tryz.func95, by kernel_rfl, by kernel_rfl⟩
instance:FnT Tryz.prog 101:=⟨_, Tryz.func101, by kernel_rfl, by kernel_rfl⟩
instance:FnT Tryz.prog 105:=⟨_, Tryz.func105, by kernel_rfl, by kernel_rfl⟩
instance:FnT Tryz.prog 107:=⟨_, Tryz.func107, by kernel_rfl, by kernel_rfl⟩
instance:FnT Tryz.prog 108:=⟨_, Tryz.func108, by kernel_rfl, by kernel_rfl⟩
instance:FnT Tryz.prog 109:=⟨_, Tryz.func109, by kernel_rfl, by kernel_rfl⟩
instance:FnT Tryz.prog 110:=⟨_, Tryz.func110, by kernel_rfl, by kernel_rfl⟩
instance:FnT Tryz.prog 111:=⟨_, Tryz.func111, by kernel_rfl, by kernel_rfl⟩
instance:FnT Tryz.prog 112:=⟨_, Tryz.func112, by kernel_rfl, by kernel_rfl⟩
instance:FnT Tryz.prog 113:=⟨_, Tryz.func113, by kernel_rfl, by kernel_rfl⟩
instance:FnT Tryz.prog 114:=⟨_, Tryz.func114, by kernel_rfl, by kernel_rfl⟩
instance:FnT Tryz.prog 115:=⟨_, Tryz.func115, by kernel_rfl, by kernel_rfl⟩
instance:FnT Tryz.prog 116:=⟨_, Tryz.func116, by kernel_rfl, by kernel_rfl⟩
instance:FnT Tryz.prog 117:=⟨_, Tryz.func117, by kernel_rfl, by kernel_rfl⟩
instance:FnT Tryz.prog 118:=⟨_, Tryz.func118, by kernel_rfl, by kernel_rfl⟩
instance:FnT Tryz.prog 119:=⟨_, Tryz.func119, by kernel_rfl, by kernel_rfl⟩
instance:FnT Tryz.prog 120:=⟨_, Tryz.func120, by kernel_rfl, by kernel_rfl⟩
instance:FnT Tryz.prog 121:=⟨_, Tryz.func121, by kernel_rfl, by kernel_rfl⟩
instance:FnT Tryz.prog 122:=⟨_, Tryz.func122, by kernel_rfl, by kernel_rfl⟩
instance:FnT Tryz.prog 123:=⟨_, Tryz.func123, by kernel_rfl, by kernel_rfl⟩
instance:FnT Tryz.prog 125:=⟨_, Tryz.func125, by kernel_rfl, by kernel_rfl⟩
instance:FnT Tryz.prog 127:=⟨_, Tryz.func127, by kernel_rfl, by kernel_rfl⟩
instance:FnT Tryz.prog 131:=⟨_, Tryz.func131, by kernel_rfl, by kernel_rfl⟩
instance:FnT Tryz.prog 132:=⟨_, Tryz.func132, by kernel_rfl, by kernel_rfl⟩
instance:FnT Tryz.prog 133:=⟨_, Tryz.func133, by kernel_rfl, by kernel_rfl⟩
instance:FnT Tryz.prog 144:=⟨_, Tryz.func144, by kernel_rfl, by kernel_rfl⟩
instance:FnT Tryz.prog 145:=⟨_, Tryz.func145, by kernel_rfl, by kernel_rfl⟩
instance:FnT Tryz.prog 147:=⟨_, Tryz.func147, by kernel_rfl, by kernel_rfl⟩
instance:FnT Tryz.prog 148:=⟨_, Tryz.func148, by kernel_rfl, by kernel_rfl⟩
instance:FnT Tryz.prog 151:=⟨_, Tryz.func151, by kernel_rfl, by kernel_rfl⟩
instance:FnT Tryz.prog 152:=⟨_, Tryz.func152, by kernel_rfl, by kernel_rfl⟩
instance:FnT Tryz.prog 153:=⟨_, Tryz.func153, by kernel_rfl, by kernel_rfl⟩
instance:FnT Tryz.prog 154:=⟨_, Tryz.func154, by kernel_rfl, by kernel_rfl⟩
instance:FnT Tryz.prog 155:=⟨_, Tryz.func155, by kernel_rfl, by kernel_rfl⟩
instance:FnT Tryz.prog 158:=⟨_, Tryz.func158, by kernel_rfl, by kernel_rfl⟩
instance:FnT Tryz.prog 159:=⟨_, Tryz.func159, by kernel_rfl, by kernel_rfl⟩
instance:FnT Tryz.prog 163:=⟨_, Tryz.func163, by kernel_rfl, by kernel_rfl⟩
instance:FnT Tryz.prog 164:=⟨_, Tryz.func164, by kernel_rfl, by kernel_rfl⟩
instance:FnT Tryz.prog 165:=⟨_, Tryz.func165, by kernel_rfl, by kernel_rfl⟩
instance:FnT Tryz.prog 176:=⟨_, Tryz.func176, by kernel_rfl, by kernel_rfl⟩
instance:FnT Tryz.prog 177:=⟨_, Tryz.func177, by kernel_rfl, by kernel_rfl⟩
instance:FnT Tryz.prog 178:=⟨_, Tryz.func178, by kernel_rfl, by kernel_rfl⟩
instance:FnT Tryz.prog 179:=⟨_, Tryz.func179, by kernel_rfl, by kernel_rfl⟩
instance:FnT Tryz.prog 180:=⟨_, Tryz.func180, by kernel_rfl, by kernel_rfl⟩
instance:FnT Tryz.prog 181:=⟨_, Tryz.func181, by kernel_rfl, by kernel_rfl⟩
instance:FnT Tryz.prog 183:=⟨_, Tryz.func183, by kernel_rfl, by kernel_rfl⟩
instance:FnT Tryz.prog 184:=⟨_, Tryz.func184, by kernel_rfl, by kernel_rfl⟩
instance:FnT Tryz.prog 185:=⟨_, Tryz.func185, by kernel_rfl, by kernel_rfl⟩
instance:FnT Tryz.prog 186:=⟨_, Tryz.func186, by kernel_rfl, by kernel_rfl⟩
instance:FnT Tryz.prog 192:=⟨_, Tryz.func192, by kernel_rfl, by kernel_rfl⟩
instance:FnT Tryz.prog 193:=⟨_, Tryz.func193, by kernel_rfl, by kernel_rfl⟩
instance:FnT Tryz.prog 194:=⟨_, Tryz.func194, by kernel_rfl, by kernel_rfl⟩
instance:FnT Tryz.prog 195:=⟨_, Tryz.func195, by kernel_rfl, by kernel_rfl⟩
instance:FnT Tryz.prog 196:=⟨_, Tryz.func196, by kernel_rfl, by kernel_rfl⟩
instance:FnT Tryz.prog 197:=⟨_, Tryz.func197, by kernel_rfl, by kernel_rfl⟩
instance:FnT Tryz.prog 198:=⟨_, Tryz.func198, by kernel_rfl, by kernel_rfl⟩
instance:FnT Tryz.prog 199:=⟨_, Tryz.func199, by kernel_rfl, by kernel_rfl⟩
instance:FnT Tryz.prog 200:=⟨_, Tryz.func200, by kernel_rfl, by kernel_rfl⟩
instance:FnT Tryz.prog 201:=⟨_, Tryz.func201, by kernel_rfl, by kernel_rfl⟩
instance:FnT Tryz.prog 202:=⟨_, Tryz.func202, by kernel_rfl, by kernel_rfl⟩
instance:FnT Tryz.prog 203:=⟨_, Tryz.func203, by kernel_rfl, by kernel_rfl⟩
instance:FnT Tryz.prog 204:=⟨_, Tryz.func204, by kernel_rfl, by kernel_rfl⟩
instance:FnT Tryz.prog 205:=⟨_, Tryz.func205, by kernel_rfl, by kernel_rfl⟩
instance:FnT Tryz.prog 211:=⟨_, Tryz.func211, by kernel_rfl, by kernel_rfl⟩
instance:FnT Tryz.prog 212:=⟨_, Tryz.func212, by kernel_rfl, by kernel_rfl⟩
instance:FnT Tryz.prog 213:=⟨_, Tryz.func213, by kernel_rfl, by kernel_rfl⟩
instance:FnT Tryz.prog 214:=⟨_, Tryz.func214, by kernel_rfl, by kernel_rfl⟩
instance:FnT Tryz.prog 215:=⟨_, Tryz.func215, by kernel_rfl, by kernel_rfl⟩
instance:FnT Tryz.prog 216:=⟨_, Tryz.func216, by kernel_rfl, by kernel_rfl⟩
instance:FnT Tryz.prog 217:=⟨_, Tryz.func217, by kernel_rfl, by kernel_rfl⟩
instance:FnT Tryz.prog 223:=⟨_, Tryz.func223, by kernel_rfl, by kernel_rfl⟩
instance:FnT Tryz.prog 224:=⟨_, Tryz.func224, by kernel_rfl, by kernel_rfl⟩
instance:FnT Tryz.prog 225:=⟨_, Tryz.func225, by kernel_rfl, by kernel_rfl⟩
instance:FnT Tryz.prog 226:=⟨_, Tryz.func226, by kernel_rfl, by kernel_rfl⟩
instance:FnT Tryz.prog 232:=⟨_, Tryz.func232, by kernel_rfl, by kernel_rfl⟩
instance:FnT Tryz.prog 239:=⟨_, Tryz.func239, by kernel_rfl, by kernel_rfl⟩
instance:FnT Tryz.prog 240:=⟨_, Tryz.func240, by kernel_rfl, by kernel_rfl⟩
instance:FnT Tryz.prog 241:=⟨_, Tryz.func241, by kernel_rfl, by kernel_rfl⟩
instance:FnT Tryz.prog 242:=⟨_, Tryz.func242, by kernel_rfl, by kernel_rfl⟩
instance:FnT Tryz.prog 243:=⟨_, Tryz.func243, by kernel_rfl, by kernel_rfl⟩
instance:FnT Tryz.prog 244:=⟨_, Tryz.func244, by kernel_rfl, by kernel_rfl⟩
instance:FnT Tryz.prog 245:=⟨_, Tryz.func245, by kernel_rfl, by kernel_rfl⟩
instance:FnT Tryz.prog 246:=⟨_, Tryz.func246, by kernel_rfl, by kernel_rfl⟩
instance:FnT Tryz.prog 249:=⟨_, Tryz.func249, by kernel_rfl, by kernel_rfl⟩
instance:FnT Tryz.prog 250:=⟨_, Tryz.func250, by kernel_rfl, by kernel_rfl⟩
instance:FnT Tryz.prog 251:=⟨_, Tryz.func251, by kernel_rfl, by kernel_rfl⟩
instance:FnT Tryz.prog 252:=⟨_, Tryz.func252, by kernel_rfl, by kernel_rfl⟩
end Go.Proofs.YtpgppgehhclfoaaGreat.TyX
namespace Go.Proofs.YtpgppgehhclfoaaGreat.Wi
open Go Go.RowKit Go.Aw Go.Aw.Cart Go.Aw.Tree Go.Proofs.YtpgppgehhclfoaaGreat.Ca Go.Proofs.YtpgppgehhclfoaaGreat.Rg
set_option linter.unusedVariables false
set_option linter.unusedSimpArgs false
set_option maxRecDepth 8000
set_option maxHeartbeats 4000000
namespace O8
theorem lopC {C:Ctx} {o:Oper} {σ:St} {e:Eff} {ro:Nat→Bool} (h:LOp C o σ e ro:=by
  first|(apply gLoad;(focus rfl);apply lop_lda;(focus rfl);(focus exact inferInstance);(focus rfl);(focus rfl);(focus decide);(focus exact Nat.le_of_eq (obR_len (by assumption)).symm);(focus exact obR_t (by assumption));(focus rfl))|exact O5.lopC|fail):LOp C o σ e ro:=h
theorem stoH8 {C:Ctx} {o:Oper} {σ:St} {e:Eff} {ro:Nat→Bool} (h:LOp C o σ e ro:=by
  first|(apply lop_sta (L:=45);(focus rfl);(focus exact inferInstance);(focus rfl);(focus rfl);(focus rfl);(focus rfl);(focus rfl);(focus rfl);(focus first|rfl|(rw [List.length_map];exact obR_len (by assumption)));(focus rw [List.length_map];exact obR_len (by assumption)))|exact O3.stoH3|fail):LOp C o σ e ro:=h
section steps
variable {C:Ctx} {ops:Array Oper} {o:Oper} {rest:List Oper} {K:St→Prop} {σ:St} {e:Eff} {ro:Nat→Bool} {W:List (Nat × Nat)} {i:Nat}
theorem rnC {d:Nat} (hg:Guard ops σ o true:=by first|exact gd_n rfl rfl|exact gd_t rfl rfl rfl rfl|exact gd_t rfl rfl rfl (by assumption)) (hd:o.dst=some d:=by rfl) (h:LOp C o σ e ro:=by exact lopC) (hk:RunN C ops rest K (e.app (some d) σ)):RunN C ops (o::rest) K σ:=rn_any hg hd h hk
theorem rkC {d:Nat} (hg:Guard ops σ o true:=by first|exact gd_n rfl rfl|exact gd_t rfl rfl rfl rfl|exact gd_t rfl rfl rfl (by assumption)) (hd':o.dst=some d:=by rfl) (hd:dOk C o.dst=true:=by rfl) (h:LOp C o σ e ro:=by exact lopC) (hro:∀ x,ro x=true→okObj ops W i x=true:=by first|exact fun _=>ro_none|exact ro_one rfl|exact ro_k1 rfl|exact ro_one (by kernel_rfl)|exact ro_k1 (by kernel_rfl)|exact ro_kIn (by decide)) (hob:∀ p∈e.obj,(i,p.1)∈W:=by first|exact ob_none|exact ob_one (by decide)|decide) (hk:RunK C ops W (i+1) rest K (e.app (some d) σ)):RunK C ops W i (o::rest) K σ:=rk_wr hg hd' hd h hro hob hk
end steps
section steps
variable {C:Ctx} {ops:Array Oper} {o:Oper} {rest:List Oper} {K:St→Prop} {σ:St} {e:Eff} {ro:Nat→Bool} {W:List (Nat × Nat)} {i:Nat}
theorem rnSH (hg:Guard ops σ o true:=by first|exact gd_n rfl rfl|exact gd_t rfl rfl rfl rfl|exact gd_t rfl rfl rfl (by assumption)) (hd:o.dst=none:=by rfl) (h:LOp C o σ e ro:=by exact stoH8) (hk:RunN C ops rest K (e.app none σ)):RunN C ops (o::rest) K σ:=rn_sto hg hd h hk
end steps
end O8
open O8
open O3 (rkSH stoH3)
theorem anyO {l:List Obp} (h:l.any (gO l.length)=false):l.length≤60:=by
 cases l with
 | nil=>exact Nat.zero_le _
 | cons a t=>
  have:=List.any_eq_false.1 h a List.mem_cons_self
  unfold gO at this
  rw [Bool.or_eq_true,not_or,decide_eq_true_iff] at this
  omega
theorem outboxMarks_w (l:List Obp) (hl:l.length≤9223372036854775807) (h:∀ o∈l,OGo o):PCall Tryz.prog 5 [.p (.sl 45 (l.map obR) false)] (.p (.b true)):=by
 refine pcall_of Tryz.func5 rfl (fun w0 F S0 M0=>?_)
 have cg:=great29_w l false hl h
 haveI i0:PC Tryz.prog 23 [] True (.p (.b true)):=⟨fun _=>alive29_w⟩
 cases hg:l.any (gO l.length) with
 | true=>
  rw [hg] at cg
  haveI i1:PC Tryz.prog 22 [.p (.sl 45 (l.map obR) false)] True (.p (.b true)):=⟨fun _=>cg⟩
  as_aux_lemma=>
   repeat' (first|refine jx17 ?_|refine jy0 ?_ ?_|exact spF|refine spQ fun hq hq'=>?_|refine spN fun hn=>?_|fail)
   exact rt1 rfl rfl finS_p rfl
 | false=>
 rw [hg] at cg
 haveI i1:PC Tryz.prog 22 [.p (.sl 45 (l.map obR) false)] True (.p (.b false)):=⟨fun _=>cg⟩
 have h60:=anyO hg
 have z32:(zeroD.map bcD).length=32:=rfl
 clear cg hg
 haveI jw:∀ (c g n:Nat) (o:List Hm),OC Tryz.prog 25 [.o (.ptr c g 0)] [(c,(n,some (bxM ⟨o,[],0⟩)))] [] (n=g+1) (.tup [.one (.p (.i (o.length:Int))),.one (.p (.i 0))]) [(c,(n,some (bxM ⟨o,[],0⟩)))]:=fun c g n o=>obWaits_i
 haveI jl:∀ (c g n:Nat) (o:List Hm),OC Tryz.prog 26 [.o (.ptr c g 0)] [(c,(n,some (bxM ⟨o,[],0⟩)))] [] (n=g+1) (.p (.i 0)) [(c,(n,some (bxM ⟨o,[],0⟩)))]:=fun c g n o=>obLost_i
 repeat' (first|refine jx17 ?_|refine jy0 ?_ ?_|exact spF|refine spQ fun hq hq'=>?_|refine spN fun hn=>?_|fail)
 refine aws_says (says_nil (t:=6) (o:=901) (es:=1) (ty:=3) rfl rfl (by decide)) ?_
 refine aws_loopS (0::3::[2,4,5,6,7,8,9,10,11,12,13,14,19,20,21,22,23,24,25,26,27,28,29,30,31,32,33,34,35,36,37,38,39,40,41,42,43,44,45,46,47,48,49,50,51,52,53,54,55,56,57,58,59,60,61,62,63,64,65,66,67,68,69,70,71,72,73,74,75,76,77,78,79,80,81,82,83,84,85,86,87,88,89,90,91,92,93,94,95,96,97,98,99,100,101,102,103,104,105,106,107,108,109,110,111,112,113,114,115,116,117,118,119,120,121]) [8,9,18,901] (fun (x:Nat × Nat × Nat × Nat × List Int × List Hm × (Nat × Option MO) × (Nat × Option MO))=>[(7,.p (.i x.1)),(4,.p (.i x.2.1)),(5,.p (.i x.2.2.1)),(6,.o (.osl 901 x.2.2.2.1 1 0 x.2.2.2.2.1.length)),(0,.p (.sl 45 (l.map obR) false)),(3,.o (.ptr 18 0 0))]) (fun x=>[(18,(1,some (bxM ⟨x.2.2.2.2.2.1,[],0⟩))),(901,(x.2.2.2.1+1,some (.buf 3 1 (x.2.2.2.2.1.map iRw)))),(8,x.2.2.2.2.2.2.1),(9,x.2.2.2.2.2.2.2)]) (fun x=>x.1≤l.length∧x.2.1≤x.1∧∃ ks,OInv x.2.1 x.2.2.1 x.2.2.2.2.1 x.2.2.2.2.2.1 ks) (fun x=>l.length - x.1) (0,0,0,0,[],[],(0,none),(0,none)) ⟨Nat.zero_le _,Nat.le_refl _,_,OInv.start⟩ (by exact knA) (by exact knA) ?_
 rintro ⟨i,sent,gone,g,marks,out,m8,m9⟩ β γ ⟨hi,hsi,ks,hI⟩
 dsimp only at hi hsi hI ⊢
 have hol:=hI.out_len
 have hsum:=hI.sum
 have hml:=hI.len
 by_cases hil:i < l.length
 ·have d1:decide ((i:Int) < (l.length:Int))=true:=decide_eq_true (by omega)
  have ei:(i:Int).toNat=i:=Int.toNat_natCast i
  have hm:l.getD (i:Int).toNat default∈l:=by rw [ei,getD_at hil];exact List.getElem_mem _
  have hd:=(h _ hm).msg.d32
  clear hm
  generalize hX:l.getD (i:Int).toNat default=X at hd
  have hs60:sent≤60:=by omega
  by_cases q0:X.kind=0
  ·have d2:decide (X.kind=0)=true:=decide_eq_true q0
   have hr:=smF_right (k:=sent) (by omega)
   have hmi:MIn (smF sent):=mZ_in
   rw [← hX] at d2 hd
   by_cases qm:X.mark < 0
   ·have e1:sendE (smF sent) X.mark=1:=by unfold sendE askF;rw [hr,if_neg (by decide),if_pos qm]
    have d3:decide ((out.length:Int)+(gone:Int)+0≠(sent:Int))=false:=decide_eq_false fun q=>q (by omega)
    rw [← hX] at e1
    haveI js:∀ c g n:Nat,OC Tryz.prog 32 [.o (.ptr c g 0),.a (mN 4 1 2 (1+(sent:Int)) 0),.p (.i (l.getD (i:Int).toNat default).mark)] [(c,(n,some (bxM ⟨out,[],0⟩)))] [] (n=g+1) (.p (.i 1)) [(c,(n,some (bxM ⟨out,[],0⟩)))]:=fun c g n=>⟨fun hn=>by
     have k:=(obSend_i (c:=c) (g:=g) (n:=n) (b:=⟨out,[],0⟩) (m:=smF sent) (k:=(l.getD (i:Int).toNat default).mark)).call ⟨hn,hmi,by show out.length < 500;omega⟩
     rw [show sendB ⟨out,[],0⟩ (smF sent) (l.getD (i:Int).toNat default).mark=⟨out,[],0⟩ by unfold sendB;rw [if_neg (by rw [e1];decide)],e1] at k
     exact k.ent (.cons Ent1.refl (.cons mN_ent (.cons Ent1.refl .nil)))⟩
    clear hr hmi e1 h hX
    as_aux_lemma=>
     repeat' (first|refine jx17 ?_|refine jy0 ?_ ?_|exact spF|refine spQ fun hq hq'=>?_|refine spN fun hn=>?_|fail)
     exact ⟨(i+1,sent,gone,g,marks,out,_,_),_,by dsimp only;omega,⟨by dsimp only;omega,by dsimp only;omega,ks,hI⟩,.refl,by exact frA⟩
   ·have e1:sendE (smF sent) X.mark=0:=by unfold sendE askF;rw [hr,if_neg (by decide),if_neg qm]
    have d3:decide (((out++[(smF sent,(l.getD (i:Int).toNat default).mark)]).length:Int)+(gone:Int)+0≠(sent:Int)+1)=false:=decide_eq_false fun q=>q (by rw [List.length_append,List.length_singleton];omega)
    rw [← hX] at e1
    haveI js:∀ c g n:Nat,OC Tryz.prog 32 [.o (.ptr c g 0),.a (mN 4 1 2 (1+(sent:Int)) 0),.p (.i (l.getD (i:Int).toNat default).mark)] [(c,(n,some (bxM ⟨out,[],0⟩)))] [] (n=g+1) (.p (.i 0)) [(c,(n,some (bxM ⟨out++[(smF sent,(l.getD (i:Int).toNat default).mark)],[],0⟩)))]:=fun c g n=>⟨fun hn=>by
     have k:=(obSend_i (c:=c) (g:=g) (n:=n) (b:=⟨out,[],0⟩) (m:=smF sent) (k:=(l.getD (i:Int).toNat default).mark)).call ⟨hn,hmi,by show out.length < 500;omega⟩
     rw [show sendB ⟨out,[],0⟩ (smF sent) (l.getD (i:Int).toNat default).mark=⟨out++[(smF sent,(l.getD (i:Int).toNat default).mark)],[],0⟩ by unfold sendB;rw [if_pos e1],e1] at k
     exact k.ent (.cons Ent1.refl (.cons mN_ent (.cons Ent1.refl .nil)))⟩
    have hI':=hI.send (l.getD (i:Int).toNat default).mark
    have hml':marks.length≤60:=by omega
    have hol':(out++[(smF sent,(l.getD (i:Int).toNat default).mark)]).length≤61:=by rw [List.length_append,List.length_singleton];omega
    clear hr hmi e1 h hX hI
    as_aux_lemma=>
     repeat' (first|refine jx17 ?_|refine jy0 ?_ ?_|exact spF|refine spQ fun hq hq'=>?_|refine spN fun hn=>?_|fail)
     exact ⟨(i+1,sent+1,gone,g+1,marks++[(l.getD (i:Int).toNat default).mark],out++[(smF sent,(l.getD (i:Int).toNat default).mark)],_,_),_,by dsimp only;omega,⟨by dsimp only;omega,by dsimp only;omega,_,hI'⟩,.refl,by exact frA⟩
  have d2:decide (X.kind=0)=false:=decide_eq_false q0
  by_cases q2:X.kind=2
  ·have d4:decide (X.kind=2)=true:=decide_eq_true q2
   subst hX
   obtain ⟨X,hX⟩:∃ X,X=(l.getD (i:Int).toNat default).mark:=⟨_,rfl⟩
   have hgo:=hI.gone X
   have hT:=hI.take X
   have hst:=fun j (hj:j < (ksG marks ks X).length)=>hI.step X hj
   obtain ⟨G,hG⟩:∃ G,G=ksG marks ks X:=⟨_,rfl⟩
   rw [← hG] at hgo hT hst
   have hlt:∀ k∈G,k < sent:=fun k hk=>hI.lt k (ksG_mem.1 (by rw [← hG];exact hk)).1
   clear hG
   obtain ⟨L,hL⟩:∃ L,L=G.map smF:=⟨_,rfl⟩
   rw [← hL] at hgo
   have hLl:L.length=G.length:=by rw [hL,List.length_map]
   have hLs:∀ j,j < L.length→(L.getD j default).ses=1+(G.getD j 0:Int):=fun j hj=>by
    rw [hL,List.getD_eq_getElem?_getD,List.getElem?_map,List.getD_eq_getElem?_getD,List.getElem?_eq_getElem (by omega)];rfl
   have hdo:∀ h∈out,h.1.dig.length=32:=fun h hh=>by
    rw [hI.out] at hh
    obtain ⟨k,_,rfl⟩:=List.mem_map.1 hh
    rfl
   have hGs:G.length≤60:=by have:=hT.sum;omega
   have hwl:(waitF out X).length≤60:=by have:=hT.out_len;have:=hT.sum;omega
   have d3:decide (((waitF out X).length:Int)+((gone:Int)+(L.length:Int))+0≠(sent:Int))=false:=decide_eq_false fun q=>q (by have:=hT.out_len;have:=hT.sum;omega)
   haveI jo:∀ c g n:Nat,OC Tryz.prog 29 [.o (.ptr c g 0),.p (.i (l.getD (i:Int).toNat default).mark)] [(c,(n,some (bxM ⟨out,[],0⟩)))] [] (n=g+1) (.p (.sl 40 (L.map mR) false)) [(c,(n,some (bxM ⟨waitF out X,[],0⟩)))]:=fun c g n=>⟨fun hn=>by
    have k:=(obOut_i (c:=c) (g:=g) (n:=n) (b:=⟨out,[],0⟩) (s:=X)).call ⟨hn,by show out.length≤1000000;omega,hdo⟩
    rw [show goneF (Bx.mk out [] 0).out X=L from hgo,hX] at k
    rw [hX]
    exact k⟩
   clear hgo hdo hL h hI
   repeat' (first|refine jx17 ?_|refine jy0 ?_ ?_|exact spF|refine spQ fun hq hq'=>?_|refine spN fun hn=>?_|fail)
   refine aws_loopS (6::8::10::[2,11,12,59,60,61,62,63,64,65,66,67,68,69,70,71,72,73,74,75,76,77,78,79,80,81,82,83,84,85,86,87,88,89,90,91,92,93,94,95,96,97,98,99,100,101,102,103,104,105,106,107,108]) [901] (fun (x:Nat × List Int)=>[(11,.p (.i x.1)),(6,.o (.osl 901 g 1 0 marks.length)),(10,.p (.sl 40 (L.map mR) false)),(8,.o (.ptr 8 m8.1 0))]) (fun x=>[(901,(g+1,some (.buf 3 1 (x.2.map iRw))))]) (fun x=>x.1≤L.length∧x.2=offTo G x.1 marks) (fun x=>L.length - x.1) (0,marks) ⟨Nat.zero_le _,rfl⟩ (by exact knA) (by exact knA) ?_
   rintro ⟨j,m⟩ β2 γ2 ⟨hj,hm⟩
   dsimp only at hj hm ⊢
   have hm2:m.length=marks.length:=by rw [hm];exact offTo_len _ _ _
   by_cases hjl:j < L.length
   ·have d5:decide ((j:Int) < (L.length:Int))=true:=decide_eq_true (by omega)
    have ej:(j:Int).toNat=j:=Int.toNat_natCast j
    obtain ⟨s1,s2,s3⟩:=hst j (by omega)
    have hse:=hLs j hjl
    rw [← hm] at s2
    have hnx:m.set (G.getD j 0) 1152921504606846976=offTo G (j+1) marks:=by rw [hm];rfl
    obtain ⟨A,hA⟩:∃ A,A=(L.getD (j:Int).toNat default).ses:=⟨_,rfl⟩
    have hA1:A=1+(G.getD j 0:Int):=by rw [hA,ej];exact hse
    have eA:(A - 1).toNat=G.getD j 0:=by omega
    rw [← eA] at hnx
    have b1:decide (A - 1 < 0)=false:=decide_eq_false (by omega)
    have b2:decide ((marks.length:Int)≤A - 1)=false:=decide_eq_false (by omega)
    have b3:decide ((l.getD (i:Int).toNat default).mark < m.getD (A - 1).toNat default)=false:=decide_eq_false (by rw [eA,← hX];show ¬ X < m.getD (G.getD j 0) 0;omega)
    have c0:0≤A - 1:=by omega
    have c1:A - 1 < (marks.length:Int):=by omega
    rw [hA] at b1 b2 b3 c0 c1 hnx
    by_cases j0:j=0
    ·have d6:decide (0 < (j:Int))=false:=decide_eq_false (by omega)
     clear hst hLs hm hA1 eA hse s1 s2 s3 hT
     as_aux_lemma=>
      repeat' (first|refine jx22 ?_|refine jy0 ?_ ?_|exact spF|refine spQ fun hq hq'=>?_|refine spN fun hn=>?_|fail)
      exact ⟨(j+1,m.set ((L.getD (j:Int).toNat default).ses - 1).toNat 1152921504606846976),_,by dsimp only;omega,⟨by dsimp only;omega,hnx⟩,.refl,by exact frA⟩
    ·have d6:decide (0 < (j:Int))=true:=decide_eq_true (by omega)
     have b4:decide ((L.getD (j:Int).toNat default).ses≤(L.getD ((j:Int) - 1).toNat default).ses)=false:=decide_eq_false (by
      have k1:=hLs (j - 1) (by omega)
      have k2:=s3 (by omega)
      rw [← hA,hA1,show ((j:Int) - 1).toNat=j - 1 by omega,k1]
      omega)
     clear hst hLs hm hA1 eA hse s1 s2 s3 hT
     as_aux_lemma=>
      repeat' (first|refine jx22 ?_|refine jy0 ?_ ?_|exact spF|refine spQ fun hq hq'=>?_|refine spN fun hn=>?_|fail)
      exact ⟨(j+1,m.set ((L.getD (j:Int).toNat default).ses - 1).toNat 1152921504606846976),_,by dsimp only;omega,⟨by dsimp only;omega,hnx⟩,.refl,by exact frA⟩
   ·have d5:decide ((j:Int) < (L.length:Int))=false:=decide_eq_false (by omega)
    obtain rfl:j=L.length:=by omega
    rw [hLl] at hm
    rw [← hm,← hLl] at hT
    rw [← hm2]
    as_aux_lemma=>
     repeat' (first|refine jx17 ?_|refine jy0 ?_ ?_|exact spF|refine spQ fun hq hq'=>?_|refine spN fun hn=>?_|fail)
     exact ⟨(i+1,sent,gone+L.length,g,m,waitF out X,_,_),_,by dsimp only;omega,⟨by dsimp only;omega,by dsimp only;omega,_,hT⟩,.refl,by exact frA⟩
  ·have d4:decide (X.kind=2)=false:=decide_eq_false q2
   have d3:decide ((out.length:Int)+(gone:Int)+0≠(sent:Int))=false:=decide_eq_false fun q=>q (by omega)
   rw [← hX] at d2 d4 hd
   clear h hX
   as_aux_lemma=>
    repeat' (first|refine jx17 ?_|refine jy0 ?_ ?_|exact spF|refine spQ fun hq hq'=>?_|refine spN fun hn=>?_|fail)
    exact ⟨(i+1,sent,gone,g,marks,out,_,_),_,by dsimp only;omega,⟨by dsimp only;omega,by dsimp only;omega,ks,hI⟩,.refl,by exact frA⟩
 ·have d1:decide ((i:Int) < (l.length:Int))=false:=decide_eq_false (by omega)
  as_aux_lemma=>
   repeat' (first|refine jx17 ?_|refine jy0 ?_ ?_|exact spF|refine spQ fun hq hq'=>?_|refine spN fun hn=>?_|fail)
   exact rt1 rfl rfl finS_p rfl
end Go.Proofs.YtpgppgehhclfoaaGreat.Wi

/- MADE BY A PROGRAM (gen_types.py): what the seat's types and functions are, read off the translation, each proved by the kernel. -/
import Derived.Test.YtkgploeegbmofaaGreatChecked
import Derived.Test.YtkgploeegbmofaaGreatSEA00
import Derived.KernelRfl
import Derived.Test.YtkgploeegbmofaaGreatSEA43
import Derived.Shelf.SlSortCmp.NoneTotal
namespace Go.Proofs.YtkgploeegbmofaaGreat
open Go Go.Aw
set_option maxRecDepth 100000
instance:TI Tryz.prog 3 (.int .i64) 1 8:=⟨by kernel_rfl,by kernel_rfl⟩
instance:TZ Tryz.prog 3 ([(.int .i64 0)]):=⟨by kernel_rfl⟩
instance:TI Tryz.prog 4 (.bool) 1 1:=⟨by kernel_rfl,by kernel_rfl⟩
instance:TI Tryz.prog 5 (.int .u8) 1 1:=⟨by kernel_rfl,by kernel_rfl⟩
instance:TZ Tryz.prog 5 ([(.int .u8 0)]):=⟨by kernel_rfl⟩
instance:TI Tryz.prog 9 (.string) 1 16:=⟨by kernel_rfl,by kernel_rfl⟩
instance:TI Tryz.prog 29 (.slice 3) 1 24:=⟨by kernel_rfl,by kernel_rfl⟩
instance:TI Tryz.prog 34 (.array 32 5) 32 32:=⟨by kernel_rfl,by kernel_rfl⟩
instance:TZ Tryz.prog 34 (List.replicate 32 (.int .u8 0)):=⟨by kernel_rfl⟩
instance:EqT Tryz.prog 34 (List.replicate 32 (LK.int .u8)):=⟨by kernel_rfl,by kernel_rfl⟩
instance:TI Tryz.prog 35 (.slice 34) 1 24:=⟨by kernel_rfl,by kernel_rfl⟩
instance:TI Tryz.prog 36 (.slice 123) 1 24:=⟨by kernel_rfl,by kernel_rfl⟩
instance:TI Tryz.prog 38 (.struct [(0,3),(1,3),(2,3),(3,3),(4,3),(5,34),(37,29),(38,35),(39,36)]) 40 144:=⟨by kernel_rfl,by kernel_rfl⟩
instance:TZ Tryz.prog 38 ([(.int .i64 0),(.int .i64 0),(.int .i64 0),(.int .i64 0),(.int .i64 0),(.int .u8 0),(.int .u8 0),(.int .u8 0),(.int .u8 0),(.int .u8 0),(.int .u8 0),(.int .u8 0),(.int .u8 0),(.int .u8 0),(.int .u8 0),(.int .u8 0),(.int .u8 0),(.int .u8 0),(.int .u8 0),(.int .u8 0),(.int .u8 0),(.int .u8 0),(.int .u8 0),(.int .u8 0),(.int .u8 0),(.int .u8 0),(.int .u8 0),(.int .u8 0),(.int .u8 0),(.int .u8 0),(.int .u8 0),(.int .u8 0),(.int .u8 0),(.int .u8 0),(.int .u8 0),(.int .u8 0),(.int .u8 0),(.slice none 0 0),(.slice none 0 0),(.slice none 0 0)]):=⟨by kernel_rfl⟩
instance:TF Tryz.prog 38 [(0,1),(1,1),(2,1),(3,1),(4,1),(5,32),(37,1),(38,1),(39,1)]:=⟨by kernel_rfl⟩
instance:TI Tryz.prog 61 (.struct [(0,3),(1,3),(2,3),(3,3)]) 4 32:=⟨by kernel_rfl,by kernel_rfl⟩
instance:TZ Tryz.prog 61 ([(.int .i64 0),(.int .i64 0),(.int .i64 0),(.int .i64 0)]):=⟨by kernel_rfl⟩
instance:EqT Tryz.prog 61 ([(LK.int .i64),(LK.int .i64),(LK.int .i64),(LK.int .i64)]):=⟨by kernel_rfl,by kernel_rfl⟩
instance:TF Tryz.prog 61 [(0,1),(1,1),(2,1),(3,1)]:=⟨by kernel_rfl⟩
instance:TI Tryz.prog 63 (.struct [(0,3),(1,3),(2,3),(3,3),(4,3),(5,29),(6,61),(10,3)]) 11 104:=⟨by kernel_rfl,by kernel_rfl⟩
instance:TZ Tryz.prog 63 ([(.int .i64 0),(.int .i64 0),(.int .i64 0),(.int .i64 0),(.int .i64 0),(.slice none 0 0),(.int .i64 0),(.int .i64 0),(.int .i64 0),(.int .i64 0),(.int .i64 0)]):=⟨by kernel_rfl⟩
instance:TF Tryz.prog 63 [(0,1),(1,1),(2,1),(3,1),(4,1),(5,1),(6,4),(10,1)]:=⟨by kernel_rfl⟩
instance:TI Tryz.prog 79 (.array 21 34) 672 672:=⟨by kernel_rfl,by kernel_rfl⟩
instance:TZ Tryz.prog 79 (List.replicate 672 (.int .u8 0)):=⟨by kernel_rfl⟩
instance:TI Tryz.prog 107 (.slice 5) 1 24:=⟨by kernel_rfl,by kernel_rfl⟩
instance:TZ Tryz.prog 107 ([(.slice none 0 0)]):=⟨by kernel_rfl⟩
instance:TI Tryz.prog 116 (.int .u64) 1 8:=⟨by kernel_rfl,by kernel_rfl⟩
instance:TI Tryz.prog 118 (.array 8 116) 8 64:=⟨by kernel_rfl,by kernel_rfl⟩
instance:TZ Tryz.prog 118 ([(.int .u64 0),(.int .u64 0),(.int .u64 0),(.int .u64 0),(.int .u64 0),(.int .u64 0),(.int .u64 0),(.int .u64 0)]):=⟨by kernel_rfl⟩
instance:EqT Tryz.prog 118 ([(LK.int .u64),(LK.int .u64),(LK.int .u64),(LK.int .u64),(LK.int .u64),(LK.int .u64),(LK.int .u64),(LK.int .u64)]):=⟨by kernel_rfl,by kernel_rfl⟩
instance:TI Tryz.prog 119 (.slice 175) 1 24:=⟨by kernel_rfl,by kernel_rfl⟩
instance:TI Tryz.prog 121 (.struct [(0,118),(8,119)]) 9 88:=⟨by kernel_rfl,by kernel_rfl⟩
instance:TZ Tryz.prog 121 ([(.int .u64 0),(.int .u64 0),(.int .u64 0),(.int .u64 0),(.int .u64 0),(.int .u64 0),(.int .u64 0),(.int .u64 0),(.slice none 0 0)]):=⟨by kernel_rfl⟩
instance:TF Tryz.prog 121 [(0,8),(8,1)]:=⟨by kernel_rfl⟩
instance:TI Tryz.prog 123 (.struct [(0,9),(1,121)]) 10 104:=⟨by kernel_rfl,by kernel_rfl⟩
instance:TZ Tryz.prog 123 ([(.string ByteArray.empty),(.int .u64 0),(.int .u64 0),(.int .u64 0),(.int .u64 0),(.int .u64 0),(.int .u64 0),(.int .u64 0),(.int .u64 0),(.slice none 0 0)]):=⟨by kernel_rfl⟩
instance:TF Tryz.prog 123 [(0,1),(1,9)]:=⟨by kernel_rfl⟩
instance:TI Tryz.prog 136 (.array 16 107) 16 384:=⟨by kernel_rfl,by kernel_rfl⟩
instance:TZ Tryz.prog 136 (List.replicate 16 (.slice none 0 0)):=⟨by kernel_rfl⟩
instance:TI Tryz.prog 144 (.array 16 36) 16 384:=⟨by kernel_rfl,by kernel_rfl⟩
instance:TZ Tryz.prog 144 (List.replicate 16 (.slice none 0 0)):=⟨by kernel_rfl⟩
instance:TI Tryz.prog 154 (.ptr 156) 1 8:=⟨by kernel_rfl,by kernel_rfl⟩
instance:TI Tryz.prog 156 (.struct [(0,107)]) 1 24:=⟨by kernel_rfl,by kernel_rfl⟩
instance:TZ Tryz.prog 156 ([(.slice none 0 0)]):=⟨by kernel_rfl⟩
instance:TF Tryz.prog 156 [(0,1)]:=⟨by kernel_rfl⟩
instance:TI Tryz.prog 175 (.struct [(0,3),(1,3),(2,116),(3,3)]) 4 32:=⟨by kernel_rfl,by kernel_rfl⟩
instance:TZ Tryz.prog 175 ([(.int .i64 0),(.int .i64 0),(.int .u64 0),(.int .i64 0)]):=⟨by kernel_rfl⟩
instance:EqT Tryz.prog 175 ([(LK.int .i64),(LK.int .i64),(LK.int .u64),(LK.int .i64)]):=⟨by kernel_rfl,by kernel_rfl⟩
instance:TI Tryz.prog 179 (.struct [(0,3),(1,116)]) 2 16:=⟨by kernel_rfl,by kernel_rfl⟩
instance:TZ Tryz.prog 179 ([(.int .i64 0),(.int .u64 0)]):=⟨by kernel_rfl⟩
instance:EqT Tryz.prog 179 ([(LK.int .i64),(LK.int .u64)]):=⟨by kernel_rfl,by kernel_rfl⟩
instance:TF Tryz.prog 179 [(0,1),(1,1)]:=⟨by kernel_rfl⟩
instance:TI Tryz.prog 182 (.slice 179) 1 24:=⟨by kernel_rfl,by kernel_rfl⟩
instance:TZ Tryz.prog 182 ([(.slice none 0 0)]):=⟨by kernel_rfl⟩
instance:TI Tryz.prog 202 (.int .u64) 1 8:=⟨by kernel_rfl,by kernel_rfl⟩
instance:TI Tryz.prog 221 (.slice 107) 1 24:=⟨by kernel_rfl,by kernel_rfl⟩
instance:TI Tryz.prog 222 (.int .u32) 1 4:=⟨by kernel_rfl,by kernel_rfl⟩
instance:TI Tryz.prog 224 (.array 8 222) 8 32:=⟨by kernel_rfl,by kernel_rfl⟩
instance:TZ Tryz.prog 224 ([(.int .u32 0),(.int .u32 0),(.int .u32 0),(.int .u32 0),(.int .u32 0),(.int .u32 0),(.int .u32 0),(.int .u32 0)]):=⟨by kernel_rfl⟩
instance:TI Tryz.prog 250 (.array 64 222) 64 256:=⟨by kernel_rfl,by kernel_rfl⟩
instance:TZ Tryz.prog 250 (List.replicate 64 (.int .u32 0)):=⟨by kernel_rfl⟩
instance:FnT Tryz.prog 20:=⟨_,Tryz.func20,by kernel_rfl,by kernel_rfl⟩
instance:FnT Tryz.prog 21:=⟨_,Tryz.func21,by kernel_rfl,by kernel_rfl⟩
instance:FnT Tryz.prog 22:=⟨_,Tryz.func22,by kernel_rfl,by kernel_rfl⟩
instance:FnT Tryz.prog 23:=⟨_,Tryz.func23,by kernel_rfl,by kernel_rfl⟩
instance:FnT Tryz.prog 24:=⟨_,Tryz.func24,by kernel_rfl,by kernel_rfl⟩
instance:FnT Tryz.prog 25:=⟨_,Tryz.func25,by kernel_rfl,by kernel_rfl⟩
instance:FnT Tryz.prog 26:=⟨_,Tryz.func26,by kernel_rfl,by kernel_rfl⟩
instance:FnT Tryz.prog 27:=⟨_,Tryz.func27,by kernel_rfl,by kernel_rfl⟩
instance:FnT Tryz.prog 28:=⟨_,Tryz.func28,by kernel_rfl,by kernel_rfl⟩
instance:FnT Tryz.prog 29:=⟨_,Tryz.func29,by kernel_rfl,by kernel_rfl⟩
instance:FnT Tryz.prog 30:=⟨_,Tryz.func30,by kernel_rfl,by kernel_rfl⟩
instance:FnT Tryz.prog 31:=⟨_,Tryz.func31,by kernel_rfl,by kernel_rfl⟩
instance:FnT Tryz.prog 32:=⟨_,Tryz.func32,by kernel_rfl,by kernel_rfl⟩
instance:FnT Tryz.prog 33:=⟨_,Tryz.func33,by kernel_rfl,by kernel_rfl⟩
instance:FnT Tryz.prog 34:=⟨_,Tryz.func34,by kernel_rfl,by kernel_rfl⟩
instance:FnT Tryz.prog 35:=⟨_,Tryz.func35,by kernel_rfl,by kernel_rfl⟩
instance:FnT Tryz.prog 36:=⟨_,Tryz.func36,by kernel_rfl,by kernel_rfl⟩
instance:FnT Tryz.prog 37:=⟨_,Tryz.func37,by kernel_rfl,by kernel_rfl⟩
instance:FnT Tryz.prog 50:=⟨_,Tryz.func50,by kernel_rfl,by kernel_rfl⟩
instance:FnT Tryz.prog 52:=⟨_,Tryz.func52,by kernel_rfl,by kernel_rfl⟩
instance:FnT Tryz.prog 53:=⟨_,Tryz.func53,by kernel_rfl,by kernel_rfl⟩
instance:FnT Tryz.prog 54:=⟨_,Tryz.func54,by kernel_rfl,by kernel_rfl⟩
instance:FnT Tryz.prog 55:=⟨_,Tryz.func55,by kernel_rfl,by kernel_rfl⟩
instance:FnT Tryz.prog 56:=⟨_,Tryz.func56,by kernel_rfl,by kernel_rfl⟩
instance:FnT Tryz.prog 57:=⟨_,Tryz.func57,by kernel_rfl,by kernel_rfl⟩
instance:FnT Tryz.prog 58:=⟨_,Tryz.func58,by kernel_rfl,by kernel_rfl⟩
instance:FnT Tryz.prog 59:=⟨_,Tryz.func59,by kernel_rfl,by kernel_rfl⟩
instance:FnT Tryz.prog 60:=⟨_,Tryz.func60,by kernel_rfl,by kernel_rfl⟩
instance:FnT Tryz.prog 61:=⟨_,Tryz.func61,by kernel_rfl,by kernel_rfl⟩
instance:FnT Tryz.prog 62:=⟨_,Tryz.func62,by kernel_rfl,by kernel_rfl⟩
instance:FnT Tryz.prog 63:=⟨_,Tryz.func63,by kernel_rfl,by kernel_rfl⟩
instance:FnT Tryz.prog 64:=⟨_,Tryz.func64,by kernel_rfl,by kernel_rfl⟩
instance:FnT Tryz.prog 65:=⟨_,Tryz.func65,by kernel_rfl,by kernel_rfl⟩
instance:FnT Tryz.prog 66:=⟨_,Tryz.func66,by kernel_rfl,by kernel_rfl⟩
instance:FnT Tryz.prog 67:=⟨_,Tryz.func67,by kernel_rfl,by kernel_rfl⟩
instance:FnT Tryz.prog 68:=⟨_,Tryz.func68,by kernel_rfl,by kernel_rfl⟩
instance:FnT Tryz.prog 69:=⟨_,Tryz.func69,by kernel_rfl,by kernel_rfl⟩
instance:FnT Tryz.prog 70:=⟨_,Tryz.func70,by kernel_rfl,by kernel_rfl⟩
instance:FnT Tryz.prog 71:=⟨_,Tryz.func71,by kernel_rfl,by kernel_rfl⟩
instance:FnT Tryz.prog 72:=⟨_,Tryz.func72,by kernel_rfl,by kernel_rfl⟩
instance:FnT Tryz.prog 73:=⟨_,Tryz.func73,by kernel_rfl,by kernel_rfl⟩
instance:FnT Tryz.prog 74:=⟨_,Tryz.func74,by kernel_rfl,by kernel_rfl⟩
instance:FnT Tryz.prog 75:=⟨_,Tryz.func75,by kernel_rfl,by kernel_rfl⟩
instance:FnT Tryz.prog 76:=⟨_,Tryz.func76,by kernel_rfl,by kernel_rfl⟩
instance:FnT Tryz.prog 77:=⟨_,Tryz.func77,by kernel_rfl,by kernel_rfl⟩
instance:FnT Tryz.prog 78:=⟨_,Tryz.func78,by kernel_rfl,by kernel_rfl⟩
instance:FnT Tryz.prog 79:=⟨_,Tryz.func79,by kernel_rfl,by kernel_rfl⟩
instance:FnT Tryz.prog 80:=⟨_,Tryz.func80,by kernel_rfl,by kernel_rfl⟩
instance:FnT Tryz.prog 81:=⟨_,Tryz.func81,by kernel_rfl,by kernel_rfl⟩
instance:FnT Tryz.prog 82:=⟨_,Tryz.func82,by kernel_rfl,by kernel_rfl⟩
instance:FnT Tryz.prog 83:=⟨_,Tryz.func83,by kernel_rfl,by kernel_rfl⟩
instance:FnT Tryz.prog 87:=⟨_,Tryz.func87,by kernel_rfl,by kernel_rfl⟩
instance:FnT Tryz.prog 89:=⟨_,Tryz.func89,by kernel_rfl,by kernel_rfl⟩
instance:FnT Tryz.prog 90:=⟨_,Tryz.func90,by kernel_rfl,by kernel_rfl⟩
instance:FnT Tryz.prog 98:=⟨_,Tryz.func98,by kernel_rfl,by kernel_rfl⟩
instance:FnT Tryz.prog 99:=⟨_,Tryz.func99,by kernel_rfl,by kernel_rfl⟩
instance:FnT Tryz.prog 100:=⟨_,Tryz.func100,by kernel_rfl,by kernel_rfl⟩
instance:FnT Tryz.prog 101:=⟨_,Tryz.func101,by kernel_rfl,by kernel_rfl⟩
instance:FnT Tryz.prog 102:=⟨_,Tryz.func102,by kernel_rfl,by kernel_rfl⟩
instance:FnT Tryz.prog 103:=⟨_,Tryz.func103,by kernel_rfl,by kernel_rfl⟩
instance:FnT Tryz.prog 104:=⟨_,Tryz.func104,by kernel_rfl,by kernel_rfl⟩
instance:FnT Tryz.prog 105:=⟨_,Tryz.func105,by kernel_rfl,by kernel_rfl⟩
instance:FnT Tryz.prog 106:=⟨_,Tryz.func106,by kernel_rfl,by kernel_rfl⟩
instance:FnT Tryz.prog 107:=⟨_,Tryz.func107,by kernel_rfl,by kernel_rfl⟩
instance:FnT Tryz.prog 108:=⟨_,Tryz.func108,by kernel_rfl,by kernel_rfl⟩
instance:FnT Tryz.prog 109:=⟨_,Tryz.func109,by kernel_rfl,by kernel_rfl⟩
instance:FnT Tryz.prog 110:=⟨_,Tryz.func110,by kernel_rfl,by kernel_rfl⟩
instance:FnT Tryz.prog 111:=⟨_,Tryz.func111,by kernel_rfl,by kernel_rfl⟩
instance:FnT Tryz.prog 112:=⟨_,Tryz.func112,by kernel_rfl,by kernel_rfl⟩
instance:FnT Tryz.prog 113:=⟨_,Tryz.func113,by kernel_rfl,by kernel_rfl⟩
instance:FnT Tryz.prog 114:=⟨_,Tryz.func114,by kernel_rfl,by kernel_rfl⟩
instance:FnT Tryz.prog 115:=⟨_,Tryz.func115,by kernel_rfl,by kernel_rfl⟩
instance:FnT Tryz.prog 116:=⟨_,Tryz.func116,by kernel_rfl,by kernel_rfl⟩
instance:FnT Tryz.prog 117:=⟨_,Tryz.func117,by kernel_rfl,by kernel_rfl⟩
instance:FnT Tryz.prog 118:=⟨_,Tryz.func118,by kernel_rfl,by kernel_rfl⟩
instance:FnT Tryz.prog 119:=⟨_,Tryz.func119,by kernel_rfl,by kernel_rfl⟩
instance:FnT Tryz.prog 120:=⟨_,Tryz.func120,by kernel_rfl,by kernel_rfl⟩
instance:FnT Tryz.prog 121:=⟨_,Tryz.func121,by kernel_rfl,by kernel_rfl⟩
instance:FnT Tryz.prog 122:=⟨_,Tryz.func122,by kernel_rfl,by kernel_rfl⟩
instance:FnT Tryz.prog 123:=⟨_,Tryz.func123,by kernel_rfl,by kernel_rfl⟩
instance:FnT Tryz.prog 124:=⟨_,Tryz.func124,by kernel_rfl,by kernel_rfl⟩
instance:FnT Tryz.prog 125:=⟨_,Tryz.func125,by kernel_rfl,by kernel_rfl⟩
instance:FnT Tryz.prog 129:=⟨_,Tryz.func129,by kernel_rfl,by kernel_rfl⟩
instance:FnT Tryz.prog 130:=⟨_,Tryz.func130,by kernel_rfl,by kernel_rfl⟩
instance:FnT Tryz.prog 131:=⟨_,Tryz.func131,by kernel_rfl,by kernel_rfl⟩
instance:FnT Tryz.prog 138:=⟨_,Tryz.func138,by kernel_rfl,by kernel_rfl⟩
instance:FnT Tryz.prog 139:=⟨_,Tryz.func139,by kernel_rfl,by kernel_rfl⟩
instance:FnT Tryz.prog 140:=⟨_,Tryz.func140,by kernel_rfl,by kernel_rfl⟩
instance:FnT Tryz.prog 141:=⟨_,Tryz.func141,by kernel_rfl,by kernel_rfl⟩
instance:FnT Tryz.prog 142:=⟨_,Tryz.func142,by kernel_rfl,by kernel_rfl⟩
instance:FnT Tryz.prog 143:=⟨_,Tryz.func143,by kernel_rfl,by kernel_rfl⟩
instance:FnT Tryz.prog 144:=⟨_,Tryz.func144,by kernel_rfl,by kernel_rfl⟩
instance:FnT Tryz.prog 145:=⟨_,Tryz.func145,by kernel_rfl,by kernel_rfl⟩
instance:FnT Tryz.prog 146:=⟨_,Tryz.func146,by kernel_rfl,by kernel_rfl⟩
instance:FnT Tryz.prog 147:=⟨_,Tryz.func147,by kernel_rfl,by kernel_rfl⟩
instance:FnT Tryz.prog 148:=⟨_,Tryz.func148,by kernel_rfl,by kernel_rfl⟩
instance:FnT Tryz.prog 149:=⟨_,Tryz.func149,by kernel_rfl,by kernel_rfl⟩
instance:FnT Tryz.prog 150:=⟨_,Tryz.func150,by kernel_rfl,by kernel_rfl⟩
instance:FnT Tryz.prog 151:=⟨_,Tryz.func151,by kernel_rfl,by kernel_rfl⟩
instance:FnT Tryz.prog 152:=⟨_,Tryz.func152,by kernel_rfl,by kernel_rfl⟩
instance:FnT Tryz.prog 153:=⟨_,Tryz.func153,by kernel_rfl,by kernel_rfl⟩
instance:FnT Tryz.prog 154:=⟨_,Tryz.func154,by kernel_rfl,by kernel_rfl⟩
instance:FnT Tryz.prog 155:=⟨_,Tryz.func155,by kernel_rfl,by kernel_rfl⟩
instance:FnT Tryz.prog 156:=⟨_,Tryz.func156,by kernel_rfl,by kernel_rfl⟩
instance:FnT Tryz.prog 162:=⟨_,Tryz.func162,by kernel_rfl,by kernel_rfl⟩
instance:FnT Tryz.prog 163:=⟨_,Tryz.func163,by kernel_rfl,by kernel_rfl⟩
instance:FnT Tryz.prog 168:=⟨_,Tryz.func168,by kernel_rfl,by kernel_rfl⟩
instance:FnT Tryz.prog 169:=⟨_,Tryz.func169,by kernel_rfl,by kernel_rfl⟩
instance:FnT Tryz.prog 170:=⟨_,Tryz.func170,by kernel_rfl,by kernel_rfl⟩
instance:FnT Tryz.prog 171:=⟨_,Tryz.func171,by kernel_rfl,by kernel_rfl⟩
instance:FnT Tryz.prog 172:=⟨_,Tryz.func172,by kernel_rfl,by kernel_rfl⟩
instance:FnT Tryz.prog 173:=⟨_,Tryz.func173,by kernel_rfl,by kernel_rfl⟩
instance:FnT Tryz.prog 174:=⟨_,Tryz.func174,by kernel_rfl,by kernel_rfl⟩
instance:FnT Tryz.prog 175:=⟨_,Tryz.func175,by kernel_rfl,by kernel_rfl⟩
instance:FnT Tryz.prog 176:=⟨_,Tryz.func176,by kernel_rfl,by kernel_rfl⟩
instance:FnT Tryz.prog 177:=⟨_,Tryz.func177,by kernel_rfl,by kernel_rfl⟩
instance:FnT Tryz.prog 178:=⟨_,Tryz.func178,by kernel_rfl,by kernel_rfl⟩
instance:FnT Tryz.prog 186:=⟨_,Tryz.func186,by kernel_rfl,by kernel_rfl⟩
instance:FnT Tryz.prog 187:=⟨_,Tryz.func187,by kernel_rfl,by kernel_rfl⟩
instance:FnT Tryz.prog 188:=⟨_,Tryz.func188,by kernel_rfl,by kernel_rfl⟩
instance:FnT Tryz.prog 189:=⟨_,Tryz.func189,by kernel_rfl,by kernel_rfl⟩
instance:FnT Tryz.prog 190:=⟨_,Tryz.func190,by kernel_rfl,by kernel_rfl⟩
instance:FnT Tryz.prog 191:=⟨_,Tryz.func191,by kernel_rfl,by kernel_rfl⟩
instance:FnT Tryz.prog 199:=⟨_,Tryz.func199,by kernel_rfl,by kernel_rfl⟩
theorem mixed:Tryz.prog.follows .mixedOrders=true:=by kernel_rfl
end Go.Proofs.YtkgploeegbmofaaGreat
namespace Go.Aw
open Go Go.RowKit Go.Proofs Go.Shelf Go.Sort
set_option linter.unusedVariables false
set_option linter.unusedSimpArgs false
theorem grow_of {w w':World} (h:Below w.heap.size w w') (hd:w.drawn≤w'.drawn):∃ q os,w'=Go.Sort.grow (w.drewN q) os:=by
  refine ⟨w'.drawn - w.drawn,w'.heap.extract w.heap.size w'.heap.size,?_⟩
  have hheap:w'.heap=w.heap++w'.heap.extract w.heap.size w'.heap.size:=by
    apply Array.ext_getElem?
    intro k
    rcases Nat.lt_or_ge k w.heap.size with hk|hk
    · rw [Array.getElem?_append_left hk];exact h.block k hk
    · rw [Array.getElem?_append_right hk,Array.getElem?_extract]
      rcases Nat.lt_or_ge k w'.heap.size with h2|h2
      · rw [if_pos (by omega)];congr 1;omega
      · rw [if_neg (by omega),Array.getElem?_eq_none h2]
  obtain ⟨heap',tape',drawn',os',output'⟩:=w'
  obtain ⟨h1,h2,h3,h4,h5⟩:=h
  simp only at h1 h2 h3 hd hheap
  unfold Go.Sort.grow World.drewN
  simp only [h1,h2,h3]
  rw [← hheap]
  congr 1
  omega
abbrev vrow (c:List Value):List PVal:=c.map PVal.v
theorem HoldsK.of_rows {α:Type} [Inhabited α] {enc:α→List Value} {k:Nat} (h0:0 < k) (hk:∀ x,(enc x).length=k) {X:Wd} {b ty:Nat} {arr:Array Value} {l:List α} (hheap:X.w.heap[b]?=some (.cells arr ty (0,0))) (hrows:RowsAt X arr 0 k (l.map fun x=>vrow (enc x))):HoldsK enc k X.w b 0 l.toArray:=by
  intro j hj
  rw [size_flatK] at hj
  have hj':j < l.length * k:=by simpa using hj
  have hjk:j / k < l.length:=Nat.div_lt_of_lt_mul (by rw [Nat.mul_comm];exact hj')
  have hmod:=Nat.mod_lt j h0
  have hdm:j / k * k+j % k=j:=by rw [Nat.mul_comm];exact Nat.div_add_mod j k
  have hrow:(l.map fun x=>vrow (enc x))[j / k]?=some (vrow (enc l[j / k])):=by simp [hjk]
  have hel:j % k < (enc l[j / k]).length:=by rw [hk];exact hmod
  obtain ⟨_,hcell⟩:=hrows _ _ hrow
  obtain ⟨cv,hcv,hval⟩:=hcell (j % k) (PVal.v (enc l[j / k])[j % k]) (by simp [hel])
  have e1:(flatK enc k l.toArray)[j]! = (enc l[j / k])[j % k]:=by
    rw [get_flatK enc k l.toArray j hj]
    have:l.toArray[j / k]! = l[j / k]:=by simp [hjk]
    rw [this];simp [hel]
  rw [e1]
  obtain ⟨hcv',_⟩:=hval
  rw [hcv'] at hcv
  rw [show 0+j / k * k+j % k=0+j by omega] at hcv
  refine ⟨?_,?_⟩
  · simp only [World.cell?,hheap]
    simpa using hcv
  · simp only [World.frozen?,hheap]
    simp
theorem sorted_heap {α:Type} [Inhabited α] {enc:α→List Value} {k:Nat} {w:World} {b ty n2:Nat} {arr:Array Value} {d:Array α} {os:Array Obj} (hheap:w.heap[b]?=some (.cells arr ty (0,0))) :
    (sortWorldK enc k w b 0 n2 d os).heap[b]?=some (.cells (putCells id 0 (flatK enc k d) arr) ty (0,0))∧(∀ q,q < w.heap.size→q≠b→(sortWorldK enc k w b 0 n2 d os).heap[q]?=w.heap[q]?)∧w.heap.size≤(sortWorldK enc k w b 0 n2 d os).heap.size:=by
  have hb:b < w.heap.size:=(Array.getElem?_eq_some_iff.1 hheap).1
  have e:(sortWorldK enc k w b 0 n2 d os).heap=w.heap.modify b (onCells (putCells id 0 (flatK enc k d)))++os:=rfl
  rw [e]
  refine ⟨?_,fun q hq hne=>?_,?_⟩
  · rw [Array.getElem?_append_left (by simpa using hb),Array.getElem?_modify,if_pos rfl,hheap];rfl
  · rw [Array.getElem?_append_left (by simpa using hq),Array.getElem?_modify,if_neg (fun e=>hne e.symm)]
  · simp
theorem sorted_rows {α:Type} [Inhabited α] {enc:α→List Value} {k:Nat} (h0:0 < k) (hk:∀ x,(enc x).length=k) (h1:∀ x,∀ v∈enc x,v.oneCell'=true) {X:Wd} {arr:Array Value} {s:List α} (hs:s.length * k≤arr.size):RowsAt X (putCells id 0 (flatK enc k s.toArray) arr) 0 k (s.map fun x=>vrow (enc x)):=by
  intro i row hr
  rw [List.getElem?_map] at hr
  cases hx:s[i]? with
  | none=>rw [hx] at hr;cases hr
  | some x=>
    rw [hx] at hr;simp at hr;subst hr
    have hi:i < s.length:=(List.getElem?_eq_some_iff.1 hx).1
    have hxi:s[i]=x:=(List.getElem?_eq_some_iff.1 hx).2
    refine ⟨by simp [hk],fun j p hp=>?_⟩
    have hjl:j < k:=by have:=(List.getElem?_eq_some_iff.1 hp).1;simpa [hk] using this
    have hj:j < (enc x).length:=by rw [hk];exact hjl
    obtain rfl:p=PVal.v (enc x)[j]:=by simpa [hj] using hp.symm
    have hik:i * k+j < s.length * k:=by
      have:=Nat.mul_le_mul_right k (show i+1≤s.length from hi)
      rw [Nat.add_mul,Nat.one_mul] at this;omega
    refine ⟨(enc x)[j],?_,rfl,h1 x _ (List.getElem_mem _)⟩
    have hd:(i * k+j) / k=i:=by rw [Nat.mul_comm,Nat.mul_add_div h0,Nat.div_eq_of_lt hjl];omega
    have hm:(i * k+j) % k=j:=by rw [Nat.mul_comm,Nat.mul_add_mod,Nat.mod_eq_of_lt hjl]
    have e1:(flatK enc k s.toArray)[i * k+j]! = (enc x)[j]:=by
      rw [get_flatK enc k s.toArray (i * k+j) (by simpa using hik),hd,hm]
      have:s.toArray[i]! = x:=by simp [hi,hxi]
      rw [this];simp [hj]
    unfold putCells
    rw [Array.getElem?_mapIdx,Array.getElem?_eq_getElem (by omega)]
    simp only [Option.map_some,Option.some.injEq,id_eq]
    rw [if_pos ⟨by omega,by rw [size_flatK];simpa using hik⟩,show 0+i * k+j - 0=i * k+j by omega,e1]
theorem sort_o {P:Program} {ρ:Ren} {α:Type} [Inhabited α] (L:SlLaysF0.n6 P ρ) (k:Nat) (h0:0 < k) (aE:∀ w,(isAgg (ρ.t 24)).run P w=.ok true w) (zE:∀ w,(Go.sizeOf (ρ.t 24)).run P w=.ok k w) (enc:α→List Value) (hk:∀ x,(enc x).length=k) (h1:∀ x,∀ v∈enc x,v.oneCell'=true)
    (cf:α→α→Int) (hO:SWO (ltOf cf)) (hT:∀ x y,(ltOf cf) x y=false→(ltOf cf) y x=false→x=y) (g:Nat) (hfn:FnT P g) (hcmp:∀ x y,PCall P g [.a ((vrow (enc x)).map .p),.a ((vrow (enc y)).map .p)] (.p (.i (cf x y)))) (ty n:Nat) (l:List α) (hl:l.length < 4611686018427387904) :
    OCall P (ρ.f 6) [.o (.osl 1000 n k 0 l.length),.p (.v (.func (.func g) #[] #[]))] (memL [(1000,(n+1,some (.buf ty k (l.map fun x=>vrow (enc x)))))]) (.tup []) (memL [(1000,(n+1,some (.buf ty k ((l.mergeSort fun x y=>!(ltOf cf) y x).map fun x=>vrow (enc x)))))]):=by
  intro w G vs hOb ha
  obtain ⟨v0,vs1,rfl,hv0,ha1⟩:=ha.cons_inv
  obtain ⟨v1,vs2,rfl,hv1,ha2⟩:=ha1.cons_inv
  obtain rfl:=ha2.nil_inv
  obtain ⟨m,c,hμ,hlen,rfl⟩:=hv0
  obtain ⟨rfl,_⟩:=hv1
  obtain ⟨g',m',hg',hm',hes,hcap,hlen2,hh⟩:=hOb.mem 1000 (n+1) _ rfl
  obtain rfl:n=g':=by omega
  rw [hμ] at hm';obtain rfl:=Option.some.inj hm'
  obtain ⟨fnn,k1,k2,k3⟩:=hfn.fn
  have hname : ¬ fnn.name = "runtime.NumGoroutine" := by simpa using k2
  have eg:∀ (args:Array Value) (w:World),(callFunc g args).run P w=.ok (.enter g args) w:=fun args w=>by
    cases hbody:fnn.body with
    | none=>simp [hbody] at k3
    | some c=>simp [callFunc,program,Sem.run,Sem.run_bind,k1,hbody,pure,hname]
  rw [List.length_map] at hlen2
  simp only at hcap hlen2 hh
  rcases hh with ⟨hn,hc0,hφ⟩ | ⟨b,arr,hb,hφ,hheap,hsz,hrows⟩
  · subst hn hc0
    have hl0:l=[]:=List.eq_nil_of_length_eq_zero (by omega)
    subst hl0
    refine (AnyF.slices_SortFunc_none L none (0 - 0) (.func (.func g) #[] #[]) w).mono ?_
    rintro e w' ⟨rfl,rfl⟩
    exact ⟨.tuple #[],G,rfl,⟨[],rfl,.nil⟩,by simpa using hOb,fun b h=>h,fun b h=>.inl h,fun o b h=>.inr ⟨o,h⟩,Mu.le.refl _,⟨rfl,.same,rfl,Nat.le_refl _,fun _ _ _=>rfl⟩⟩
  · subst hb
    have hblk:b < w.heap.size:=(Array.getElem?_eq_some_iff.1 hheap).1
    have hflat:HoldsK enc k w b 0 l.toArray:=HoldsK.of_rows (X:=⟨w,G.S⟩) h0 hk hheap hrows
    have hcl:CmpLays P g #[] enc k cf b 0 l.toArray.size w:=by
      intro mm os dk hs x y
      have hall:∀ z:α,All2 (AC.holds Mu.none ⟨sortWorldK enc k w b 0 mm dk os,fun _=>False⟩) ((vrow (enc z)).map .p) (enc z):=fun z=>by
        refine ⟨by simp,fun i c v hc hv=>?_⟩
        simp only [List.getElem?_map] at hc
        rw [hv] at hc
        simp at hc;subst hc
        exact ⟨rfl,h1 z v (List.mem_of_getElem? hv)⟩
      refine (hcmp x y (sortWorldK enc k w b 0 mm dk os) (fun _=>False) [.agg (enc x).toArray,.agg (enc y).toArray] (fun _ h=>h.elim) (.cons ⟨enc x,rfl,hall x⟩ (.cons ⟨enc y,rfl,hall y⟩ .nil))).mono ?_
      rintro e w' ⟨v,rfl,⟨S',_,_,hr⟩,hb,hd⟩
      obtain ⟨rfl,_⟩:=hr
      exact ⟨rfl,grow_of hb hd⟩
    have hgo:=AnyQ.slices_SortFunc_total L k aE zE enc hk h1 cf hO g #[] b 0 (c - 0) l.toArray w eg hcl hflat hblk (by simpa using hl) hT
    simp only [List.size_toArray] at hgo
    have hargs:(#[.slice (some ⟨b,0,none⟩) l.length (c - 0),.func (.func g) #[] #[]]:Array Value)=[Value.slice (Option.map (fun b=>⟨b,0 * k,none⟩) (some b)) l.length (c - 0),.func (.func g) #[] #[]].toArray:=by simp
    rw [← hargs]
    refine hgo.mono ?_
    rintro e w' ⟨rfl,n2,os,rfl⟩
    have hSl:(l.mergeSort fun x y=>!(ltOf cf) y x).length=l.length:=List.length_mergeSort ..
    obtain ⟨q1,q2,q3⟩:=sorted_heap (enc:=enc) (k:=k) (n2:=n2) (d:=(l.mergeSort fun x y=>!(ltOf cf) y x).toArray) (os:=os) hheap
    have hsame:∀ q,G.S q→(sortWorldK enc k w b 0 n2 (l.mergeSort fun x y=>!(ltOf cf) y x).toArray os).heap[q]?=w.heap[q]?:=fun q hq=>q2 q (hOb.sbd q hq) fun e=>hOb.stab 1000 b (by rw [hφ];simp) (e ▸ hq)
    refine ⟨.tuple #[],G,rfl,⟨[],rfl,.nil⟩,?_,fun b h=>h,fun b h=>.inl h,fun o b h=>.inr ⟨o,h⟩,Mu.le.refl _,⟨rfl,⟨rfl,Nat.le_add_right _ _⟩,rfl,q3,fun q hq hn=>q2 q hq fun e=>hn ⟨1000,by rw [hφ,e];simp⟩⟩⟩
    exact {
      gens:=fun o=>by
        have:=hOb.gens o
        by_cases ho:o=1000
        · subst ho;simpa [memL] using this
        · simpa [memL,ho] using this
      mem:=fun o n' mo ho=>by
        by_cases hq:o=1000
        · subst hq
          simp only [memL,if_true,Prod.mk.injEq,Option.some.injEq] at ho
          obtain ⟨rfl,rfl⟩:=ho
          refine ⟨n,(some b,c),rfl,hμ,hes,hcap,by rw [List.length_map,hSl];exact hlen2,.inr ⟨b,_,rfl,hφ,q1,?_,?_⟩⟩
          · simp [putCells,hsz]
          · exact sorted_rows h0 hk h1 (by rw [hSl,hsz];exact Nat.mul_le_mul_right k hlen2)
        · simp [memL,hq] at ho
      apart:=hOb.apart
      stab:=hOb.stab
      own:=fun o b hb=>Nat.lt_of_lt_of_le (hOb.own o b hb) q3
      sbd:=fun b hb=>Nat.lt_of_lt_of_le (hOb.sbd b hb) q3 }
end Go.Aw

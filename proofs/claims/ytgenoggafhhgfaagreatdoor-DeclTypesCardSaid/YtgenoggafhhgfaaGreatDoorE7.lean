/- Texts of the proof: what functions of the program compute, step by step. No conditions of its own. -/
import Derived.Test.YtgenoggafhhgfaaGreatDoorChecked
import Derived.Test.YtgenoggafhhgfaaGreatDoorE6
import Derived.KernelRfl
set_option linter.unusedVariables false
set_option linter.unusedSimpArgs false
namespace Go.AI
open Go Go.Proofs
set_option maxRecDepth 100000
def lp7_0:ACode:=
 (.seq (.seq (rg [oq 14 (.len false (tm 2)) [19],op 16 (ar .lss (tm 7) (tm 14)),gt 17 16 (.mv (tm 7)) [],gt 18 16 (ar .lss (tm 17) (zi 1)) [],op 19 (.pick (tm 16) (tm 18) (.lit (.bool false)))] [1,2,3,7,19])
 (.cond (tm 19) .skip
 (.exit 0)))
 (.seq (.block 1 (.seq (dr [oq 22 (.load true 10 (tm 3)) [3],oq 23 (.mv (tm 2)) [2],oq 24 (.mv (tm 7)) [7],oq 25 (.indexAddrS 6 (tm 23) (tm 24)) [23,24],oq 26 (.load true 6 (tm 25)) [25],oq 27 (.call (.fn 40) [(tm 22),(tm 26)]) [22,26],oq 28 (.load true 10 (tm 3)) [3],oq 29 (.mv (tm 2)) [2],oq 30 (.mv (tm 7)) [7],oq 31 (.indexAddrS 6 (tm 29) (tm 30)) [29,30],oq 32 (.load true 6 (tm 31)) [31],oq 33 (.call (.fn 23) [(tm 28),(tm 32)]) [28,32],oq 34 (ar .neq (tm 27) (tm 33)) [27,33]] [0,0,0,6,14,31,0,0,0,384,896,2047,4095] [1,2,3,7,34])
 (.cond (tm 34) (.seq (rg [op 6 (.mv (.lit (.bool false)))] [6])
 .ret)
 .skip)))
 (rg [oq 20 (.mv (tm 7)) [21],op 7 (ar .add (tm 20) (zi 1))] [1,2,3,7])))
def af7:AFunc:=⟨60,3,[.tmp 6],
 (.seq (rg [oq 3 (.box (tm 0)) [6]] [1,2,3])
 (.seq (.seq (rg [op 7 (.mv (zi 0))] [1,2,3,7])
 (.block 0 (.loop lp7_0)))
 (.seq (rg [oq 36 (.load true 10 (tm 3)) [41],op 35 (.call (.fn 15) [(tm 36),(tm 1),(tm 2)]),op 40 (.extract (tm 35) 0),op 41 (.extract (tm 35) 1),op 8 (.mv (tm 40)),op 9 (.mv (tm 41))] [1,2,3,8,9])
 (.seq (rg [oq 43 (.load true 10 (tm 3)) [48],op 42 (.call (.fn 41) [(tm 43),(tm 1),(tm 2)]),op 47 (.extract (tm 42) 0),op 48 (.extract (tm 42) 1),op 10 (.mv (tm 47)),op 11 (.mv (tm 48))] [8,9,10,11])
 (.seq (rg [oq 52 (.call (.fn 21) [(tm 8),(tm 10)]) [59],gt 53 52 (.mv (tm 9)) [],gt 54 52 (.mv (tm 11)) [],gt 55 52 (ar .eql (tm 53) (tm 54)) [],op 57 (.pick (tm 52) (tm 55) (.lit (.bool false))),gt 58 57 (.call (.fn 16) []) [],op 6 (.pick (tm 57) (tm 58) (.lit (.bool false)))] [6])
 .ret)))))⟩
theorem good7:Good Tryz.prog (7,af7):=mkG Z0 [(0,[1,2,3]),(1,[1,2,3,7]),(2,[1,2,3,7,19]),(4,[1,2,3,7,34]),(5,[6]),(3,[1,2,3,7]),(6,[1,2,3,8,9]),(7,[8,9,10,11]),(8,[6])] Tryz.func7 (by kernel_rfl)
def af14:AFunc:=⟨7,1,[.tmp 2],
 (.seq (rg [oq 1 (.box (tm 0)) [2]] [1])
 (.seq (rg [oq 3 (.load true 10 (tm 1)) [6],op 4 (.call (.fn 55) [(tm 3)]),op 5 (.mkFunc 56 [(tm 4)] []),op 2 (.call (.fn 54) [(tm 5)])] [2])
 .ret))⟩
theorem good14:Good Tryz.prog (14,af14):=mkG Z0 [(0,[1]),(1,[2])] Tryz.func14 (by kernel_rfl)
def af15:AFunc:=⟨14,3,[.cell 6 false 1,.tmp 7],
 (.seq (rg [oq 3 (.box (tm 0)) [7],op 4 (.box (tm 1)),op 5 (.box (tm 2)),op 6 (.allocRow 6)] [3,4,5,6])
 (.seq (rg [oq 8 (.mkFunc 57 [] [(tm 3),(tm 4),(tm 5),(tm 6)]) [9],op 7 (.call (.fn 54) [(tm 8)])] [6,7])
 (.seq (.seq (rg [oq 11 (ar .neq (tm 7) (zi 0)) [11]] [6,7,11])
 (.cond (tm 11) (.seq (rg [op 12 (.mv (tm 7)),on (.store 1 (tm 6) (.lit .empty)),op 7 (.mv (tm 12))] [6,7])
 .ret)
 .skip))
 (.seq (rg [ld 13 6,on (.store 1 (tm 6) (tm 13)),op 7 (.mv (zi 0))] [6,7])
 .ret))))⟩
theorem good15:Good Tryz.prog (15,af15):=mkG (fun t=>t==6) [(0,[3,4,5,6]),(1,[6,7]),(2,[6,7,11]),(3,[6,7]),(4,[6,7])] Tryz.func15 (by kernel_rfl)
def af16:AFunc:=⟨280,0,[.tmp 0],
 (.seq (rg [op 0 (.mv (tm 0))] [])
 (.seq (rg [op 27 (.call (.fn 46) []),op 1 (.alloc z10),on (.store 10 (tm 1) (tm 27))] [1])
 (.seq (rg [op 28 (.load true 10 (tm 1)),op 2 (.alloc z10),on (.store 10 (tm 2) (tm 28))] [1,2])
 (.seq (rg [op 29 (.buildSlice 2 0 z2a []),ao 30 1 1,ld 31 30,op 32 (.append 2 40 (tm 29) (tm 31)),op 33 (.build z2a [(0,1,(.lit (.str [73,79])))]),op 34 (.buildSlice 2 1 z2a [(0,(tm 33))]),op 35 (.append 2 40 (tm 32) (tm 34)),ao 36 1 2,on (.store 1 (tm 36) (tm 35))] [1,2])
 (.seq (rg [op 37 (.call (.fn 18) []),op 38 (.buildSlice 6 1 z6 [(0,(tm 37))]),op 39 (.call (.fn 19) [(.lit (.str [76,105,115,116])),(tm 38)]),op 3 (.alloc z6),on (.store 6 (tm 3) (tm 39))] [1,2,3])
 (.seq (rg [op 40 (.call (.fn 50) [(zi 1)]),op 41 (.buildSlice 7 1 z7a [(0,(tm 40))]),op 42 (.call (.fn 62) [(.lit (.str [78,105,108])),(.lit .empty)]),op 43 (.buildSlice 1 2 [(.str [])] [(0,(.lit (.str [104]))),(1,(.lit (.str [116])))]),op 44 (.call (.fn 62) [(.lit (.str [67,111,110,115])),(tm 43)]),op 45 (.buildSlice 9 2 z9a [(0,(tm 42)),(1,(tm 44))]),op 46 (.build z7a [(0,1,(zi 11)),(5,1,(tm 41)),(6,1,(tm 45))]),op 4 (.alloc z7a),on (.store 7 (tm 4) (tm 46))] [1,2,3,4])
 (.seq (rg [op 47 (.call (.fn 50) [(zi 1)]),op 48 (.buildSlice 7 1 z7a [(0,(tm 47))]),op 49 (.buildSlice 1 2 [(.str [])] [(0,(.lit (.str [104]))),(1,(.lit (.str [116])))]),op 50 (.call (.fn 62) [(.lit (.str [67,111,110,115])),(tm 49)]),op 51 (.call (.fn 62) [(.lit (.str [78,105,108])),(.lit .empty)]),op 52 (.buildSlice 9 2 z9a [(0,(tm 50)),(1,(tm 51))]),op 53 (.build z7a [(0,1,(zi 11)),(5,1,(tm 48)),(6,1,(tm 52))]),op 5 (.alloc z7a),on (.store 7 (tm 5) (tm 53))] [1,2,3,4,5])
 (.seq (rg [op 54 (.call (.fn 50) [(zi 1)]),op 55 (.buildSlice 7 1 z7a [(0,(tm 54))]),op 56 (.buildSlice 1 1 [(.str [])] [(0,(.lit (.str [120])))]),op 57 (.call (.fn 62) [(.lit (.str [114,101,116,117,114,110])),(tm 56)]),op 58 (.buildSlice 1 2 [(.str [])] [(0,(.lit (.str [117]))),(1,(.lit (.str [107])))]),op 59 (.call (.fn 62) [(.lit (.str [103,101,116])),(tm 58)]),op 60 (.buildSlice 9 2 z9a [(0,(tm 57)),(1,(tm 59))]),op 61 (.build z7a [(0,1,(zi 14)),(2,1,(.lit (.str [83,116,97,116,101]))),(5,1,(tm 55)),(6,1,(tm 60))]),op 6 (.alloc z7a),on (.store 7 (tm 6) (tm 61))] [1,2,3,4,5,6])
 (.seq (rg [oq 63 (.load true 10 (tm 1)) [67],op 62 (.call (.fn 32) [(tm 63),(.lit (.str [114,101,97,100]))]),op 65 (.extract (tm 62) 0),op 66 (.extract (tm 62) 1),op 67 (.extract (tm 62) 2),op 7 (.mv (tm 65)),op 8 (.mv (tm 66)),op 9 (.mv (tm 67))] [1,2,3,4,5,6,7,8,9])
 (.seq (rg [oq 69 (.load true 10 (tm 1)) [73],op 68 (.call (.fn 30) [(tm 69),(.lit (.str [76,101,97,102]))]),op 71 (.extract (tm 68) 0),op 72 (.extract (tm 68) 1),op 73 (.extract (tm 68) 2),op 10 (.mv (tm 71)),op 11 (.mv (tm 72)),op 12 (.mv (tm 73))] [1,2,3,4,5,6,7,8,9,10,11,12])
 (.seq (dr [oq 75 (.load true 10 (tm 1)) [1],op 76 (.call (.fn 48) []),oq 77 (.buildSlice 6 1 z6 [(0,(tm 76))]) [76],oq 78 (.call (.fn 15) [(tm 75),(.lit (.str [67,111,110,115])),(tm 77)]) [75,77],oq 74 (.mv (tm 78)) [78],oq 79 (.extract (tm 74) 0) [74],oq 80 (.extract (tm 74) 1) [74],oq 13 (.mv (tm 79)) [79],oq 14 (.mv (tm 80)) [80]] [0,0,2,7,15,31,31,63,255] [1,2,3,4,5,6,7,8,9,10,11,12,13,14])
 (.seq (dr [oq 82 (.load true 10 (tm 1)) [1],op 83 (.call (.fn 19) [(.lit (.str [86,111,105,100])),(.lit .empty)]),oq 84 (.call (.fn 20) [(tm 82),(tm 83)]) [82,83],oq 81 (.mv (tm 84)) [84],oq 85 (.extract (tm 81) 0) [81],oq 86 (.extract (tm 81) 1) [81],oq 15 (.mv (tm 85)) [85],oq 16 (.mv (tm 86)) [86]] [0,0,3,7,15,15,31,127] [1,2,3,4,5,6,7,8,9,10,11,12,13,14,15,16])
 (.seq (dr [oq 88 (.load true 10 (tm 1)) [1],op 89 (.call (.fn 19) [(.lit (.str [86,111,105,100])),(.lit .empty)]),oq 90 (.buildSlice 6 1 z6 [(0,(tm 89))]) [89],oq 91 (.call (.fn 19) [(.lit (.str [76,105,115,116])),(tm 90)]) [90],oq 92 (.call (.fn 20) [(tm 88),(tm 91)]) [88,91],oq 87 (.mv (tm 92)) [92],oq 93 (.extract (tm 87) 0) [87],oq 94 (.extract (tm 87) 1) [87],oq 17 (.mv (tm 93)) [93],oq 18 (.mv (tm 94)) [94]] [0,0,2,6,15,31,63,63,127,511] [1,2,3,4,5,6,7,8,9,10,11,12,13,14,15,16,17,18])
 (.seq (dr [oq 96 (.load true 10 (tm 1)) [1],oq 97 (.load true 6 (tm 3)) [3],op 98 (.call (.fn 50) [(zi (-5))]),op 99 (.call (.fn 49) [(.lit (.str [78,105,108])),(.lit .empty)]),oq 100 (.buildSlice 7 2 z7a [(0,(tm 98)),(1,(tm 99))]) [98,99],oq 101 (.call (.fn 49) [(.lit (.str [67,111,110,115])),(tm 100)]) [100],oq 102 (.call (.fn 26) [(tm 96),(tm 97),(tm 101)]) [96,97,101],oq 95 (.mv (tm 102)) [102],oq 103 (.extract (tm 95) 0) [95],oq 104 (.extract (tm 95) 1) [95],oq 19 (.mv (tm 103)) [103],oq 20 (.mv (tm 104)) [104]] [0,0,0,4,12,28,63,127,255,255,511,2047] [1,2,4,5,6,7,8,9,10,11,12,13,14,15,16,17,18,19,20])
 (.seq (dr [oq 106 (.load true 10 (tm 1)) [1],op 107 (.call (.fn 48) []),oq 108 (.buildSlice 6 1 z6 [(0,(tm 107))]) [107],oq 109 (.call (.fn 19) [(.lit (.str [76,105,115,116])),(tm 108)]) [108],oq 110 (.call (.fn 22) [(tm 106),(tm 109),(zi 5)]) [106,109],oq 105 (.mv (tm 110)) [110],oq 111 (.extract (tm 105) 0) [105],oq 112 (.extract (tm 105) 1) [105],oq 21 (.mv (tm 111)) [111],oq 22 (.mv (tm 112)) [112]] [0,0,2,6,15,31,63,63,127,511] [1,2,4,5,6,7,8,9,10,11,12,13,14,15,16,17,18,19,20,21,22])
 (.seq (dr [oq 114 (.load true 10 (tm 1)) [1],op 115 (.call (.fn 18) []),op 116 (.call (.fn 18) []),oq 117 (.call (.fn 47) [(tm 115),(tm 116),(.lit .empty)]) [115,116],oq 118 (.buildSlice 6 1 z6 [(0,(tm 117))]) [117],oq 119 (.call (.fn 19) [(.lit (.str [76,105,115,116])),(tm 118)]) [118],oq 120 (.call (.fn 22) [(tm 114),(tm 119),(zi 3)]) [114,119],oq 113 (.mv (tm 120)) [120],oq 121 (.extract (tm 113) 0) [113],oq 122 (.extract (tm 113) 1) [113],oq 23 (.mv (tm 121)) [121],oq 24 (.mv (tm 122)) [122]] [0,0,2,6,14,30,63,127,255,255,511,2047] [1,2,4,5,6,7,8,9,10,11,12,13,14,15,16,17,18,19,20,21,22,24])
 (.seq (dr [oq 124 (.load true 10 (tm 1)) [1],op 125 (.call (.fn 18) []),oq 126 (.call (.fn 24) [(tm 124),(tm 125),(zi 1)]) [124,125],oq 123 (.mv (tm 126)) [126],oq 127 (.extract (tm 123) 0) [123],oq 128 (.extract (tm 123) 1) [123],oq 25 (.mv (tm 127)) [127],oq 26 (.mv (tm 128)) [128]] [0,0,3,7,15,15,31,127] [1,2,4,5,6,7,8,9,10,11,12,13,14,15,16,17,18,19,20,21,22,24,25,26])
 (.seq (.seq (dr [oq 129 (.mv (tm 13)) [13],oq 130 (.len false (tm 129)) [129],oq 131 (ar .neq (tm 130) (zi 2)) [130],oq 132 (.mv (tm 131)) [131],gf 133 132 (.mv (tm 25)) [25,132],gf 134 132 (.len false (tm 133)) [133,132],gf 135 132 (ar .neq (tm 134) (zi 2)) [134,132],oq 136 (.pick (tm 132) (.lit (.bool true)) (tm 135)) [132,135],oq 137 (.mv (tm 136)) [136],gf 138 137 (.mv (tm 13)) [13,137],gf 139 137 (.indexAddrS 6 (tm 138) (zi 0)) [138,137],gf 140 137 (.load true 6 (tm 139)) [139,137],gf 141 137 (.call (.fn 48) []) [137],gf 142 137 (.call (.fn 63) [(tm 140),(tm 141)]) [140,141,137],gf 143 137 (.not (tm 142)) [142,137],oq 144 (.pick (tm 137) (.lit (.bool true)) (tm 143)) [137,143],oq 145 (.mv (tm 144)) [144],gf 146 145 (.mv (tm 13)) [13,145],gf 147 145 (.indexAddrS 6 (tm 146) (zi 1)) [146,145],gf 148 145 (.load true 6 (tm 147)) [147,145],gf 149 145 (.call (.fn 48) []) [145],gf 150 145 (.buildSlice 6 1 z6 [(0,(tm 149))]) [149,145],gf 151 145 (.call (.fn 19) [(.lit (.str [76,105,115,116])),(tm 150)]) [150,145],gf 152 145 (.call (.fn 63) [(tm 148),(tm 151)]) [148,151,145],gf 153 145 (.not (tm 152)) [152,145],oq 154 (.pick (tm 145) (.lit (.bool true)) (tm 153)) [145,153],oq 155 (.mv (tm 154)) [154],gf 156 155 (.mv (tm 25)) [25,155],gf 157 155 (.indexAddrS 7 (tm 156) (zi 1)) [156,155],gf 158 155 (.load true 7 (tm 157)) [157,155],gf 159 155 (.call (.fn 50) [(zi 1)]) [155],gf 160 155 (.call (.fn 51) [(tm 158),(tm 159)]) [158,159,155],gf 161 155 (.not (tm 160)) [160,155],oq 162 (.pick (tm 155) (.lit (.bool true)) (tm 161)) [155,161]] [0,1,3,7,15,31,63,127,255,511,1023,2047,511,8191,16383,32767,65535,131071,262143,524287,131071,1179647,3276799,8388607,16777215,33554431,67108863,134217727,268435455,536870911,134217727,2147483647,4294967295,8589934591] [1,2,4,5,6,7,8,9,10,11,12,14,15,16,17,18,19,20,21,22,24,26,162])
 (.cond (tm 162) (.seq (rg [op 0 (.mv (.lit (.bool false)))] [0])
 .ret)
 .skip))
 (.seq (dr [oq 163 (.mv (tm 9)) [9],oq 164 (ar .eql (tm 163) (zi 0)) [163],oq 165 (.mv (tm 164)) [164],gt 166 165 (.mv (tm 12)) [12,165],gt 167 165 (ar .eql (tm 166) (zi 0)) [166,165],oq 168 (.pick (tm 165) (tm 167) (.lit (.bool false))) [165,167],oq 169 (.mv (tm 168)) [168],gt 170 169 (.mv (tm 14)) [14,169],gt 171 169 (ar .eql (tm 170) (zi 0)) [170,169],oq 172 (.pick (tm 169) (tm 171) (.lit (.bool false))) [169,171],oq 173 (.mv (tm 172)) [172],gt 174 173 (.mv (tm 16)) [16,173],gt 175 173 (ar .eql (tm 174) (zi 0)) [174,173],oq 176 (.pick (tm 173) (tm 175) (.lit (.bool false))) [173,175],oq 177 (.mv (tm 176)) [176],gt 178 177 (.mv (tm 18)) [18,177],gt 179 177 (ar .eql (tm 178) (zi 0)) [178,177],oq 180 (.pick (tm 177) (tm 179) (.lit (.bool false))) [177,179],oq 181 (.mv (tm 180)) [180],gt 182 181 (.mv (tm 20)) [20,181],gt 183 181 (ar .eql (tm 182) (zi 0)) [182,181],oq 184 (.pick (tm 181) (tm 183) (.lit (.bool false))) [181,183],oq 185 (.mv (tm 184)) [184],gt 186 185 (.mv (tm 22)) [22,185],gt 187 185 (ar .eql (tm 186) (zi 0)) [186,185],oq 188 (.pick (tm 185) (tm 187) (.lit (.bool false))) [185,187],oq 189 (.mv (tm 188)) [188],gt 190 189 (.mv (tm 24)) [24,189],gt 191 189 (ar .eql (tm 190) (zi 8)) [190,189],oq 192 (.pick (tm 189) (tm 191) (.lit (.bool false))) [189,191],oq 193 (.mv (tm 192)) [192],gt 194 193 (.mv (tm 26)) [26,193],gt 195 193 (ar .eql (tm 194) (zi 0)) [194,193],oq 196 (.pick (tm 193) (tm 195) (.lit (.bool false))) [193,195],oq 197 (.mv (tm 196)) [196],gt 198 197 (.mv (tm 7)) [7,197],gt 199 197 (ar .eql (tm 198) (zi (-1))) [198,197],oq 200 (.pick (tm 197) (tm 199) (.lit (.bool false))) [197,199],oq 201 (.mv (tm 200)) [200],gt 202 201 (.mv (tm 8)) [8,201],gt 203 201 (ar .eql (tm 202) (zi 1)) [202,201],oq 204 (.pick (tm 201) (tm 203) (.lit (.bool false))) [201,203],oq 205 (.mv (tm 204)) [204],gt 206 205 (.mv (tm 10)) [10,205],gt 207 205 (ar .eql (tm 206) (zi 2)) [206,205],oq 208 (.pick (tm 205) (tm 207) (.lit (.bool false))) [205,207],oq 209 (.mv (tm 208)) [208],gt 210 209 (.mv (tm 11)) [11,209],gt 211 209 (ar .eql (tm 210) (zi 0)) [210,209],oq 212 (.pick (tm 209) (tm 211) (.lit (.bool false))) [209,211],oq 213 (.mv (tm 212)) [212],gt 214 213 (.mv (tm 15)) [15,213],gt 215 213 (.not (tm 214)) [214,213],oq 216 (.pick (tm 213) (tm 215) (.lit (.bool false))) [213,215],oq 217 (.mv (tm 216)) [216],gt 218 217 (.mv (tm 17)) [17,217],oq 219 (.pick (tm 217) (tm 218) (.lit (.bool false))) [217,218],oq 220 (.mv (tm 219)) [219],gt 221 220 (.mv (tm 19)) [19,220],oq 222 (.pick (tm 220) (tm 221) (.lit (.bool false))) [220,221],oq 223 (.mv (tm 222)) [222],gt 224 223 (.mv (tm 21)) [21,223],gt 225 223 (ar .eql (tm 224) (zi 7)) [224,223],oq 226 (.pick (tm 223) (tm 225) (.lit (.bool false))) [223,225],oq 227 (.mv (tm 226)) [226],gt 228 227 (.load true 10 (tm 1)) [1,227],gt 229 227 (.call (.fn 14) [(tm 228)]) [228,227],gt 230 227 (ar .eql (tm 229) (zi 0)) [229,227],oq 231 (.pick (tm 227) (tm 230) (.lit (.bool false))) [227,230],oq 232 (.mv (tm 231)) [231],gt 233 232 (.load true 10 (tm 2)) [2,232],gt 234 232 (.call (.fn 14) [(tm 233)]) [233,232],gt 235 232 (ar .eql (tm 234) (zi 5)) [234,232],oq 236 (.pick (tm 232) (tm 235) (.lit (.bool false))) [232,235],oq 237 (.mv (tm 236)) [236],gt 238 237 (.load true 10 (tm 1)) [1,237],gt 239 237 (.call (.fn 36) [(tm 238)]) [238,237],gt 240 237 (ar .eql (tm 239) (zi 0)) [239,237],oq 241 (.pick (tm 237) (tm 240) (.lit (.bool false))) [237,240],oq 242 (.mv (tm 241)) [241],gt 243 242 (.load true 10 (tm 1)) [1,242],gt 244 242 (.load true 7 (tm 4)) [4,242],gt 245 242 (.call (.fn 38) [(tm 243),(tm 244)]) [243,244,242],gt 246 242 (ar .eql (tm 245) (zi 0)) [245,242],oq 247 (.pick (tm 242) (tm 246) (.lit (.bool false))) [242,246],oq 248 (.mv (tm 247)) [247],gt 249 248 (.load true 10 (tm 1)) [1,248],gt 250 248 (.load true 7 (tm 5)) [5,248],gt 251 248 (.call (.fn 38) [(tm 249),(tm 250)]) [249,250,248],gt 252 248 (ar .eql (tm 251) (zi 9)) [251,248],oq 253 (.pick (tm 248) (tm 252) (.lit (.bool false))) [248,252],oq 254 (.mv (tm 253)) [253],gt 255 254 (.load true 10 (tm 1)) [1,254],gt 256 254 (.load true 7 (tm 6)) [6,254],gt 257 254 (.call (.fn 38) [(tm 255),(tm 256)]) [255,256,254],gt 258 254 (ar .eql (tm 257) (zi 9)) [257,254],oq 259 (.pick (tm 254) (tm 258) (.lit (.bool false))) [254,258],oq 260 (.mv (tm 259)) [259],gt 261 260 (.load true 10 (tm 1)) [1,260],gt 262 260 (.call (.fn 49) [(.lit (.str [66,111,120])),(.lit .empty)]) [260],gt 263 260 (.call (.fn 38) [(tm 261),(tm 262)]) [261,262,260],gt 264 260 (ar .eql (tm 263) (zi 6)) [263,260],oq 265 (.pick (tm 260) (tm 264) (.lit (.bool false))) [260,264],oq 266 (.mv (tm 265)) [265],gt 267 266 (.load true 10 (tm 1)) [1,266],gt 268 266 (.call (.fn 50) [(zi 1)]) [266],gt 269 266 (.buildSlice 7 1 z7a [(0,(tm 268))]) [268,266],gt 270 266 (.call (.fn 49) [(.lit (.str [67,111,110,115])),(tm 269)]) [269,266],gt 271 266 (.call (.fn 38) [(tm 267),(tm 270)]) [267,270,266],gt 272 266 (ar .eql (tm 271) (zi 7)) [271,266],oq 273 (.pick (tm 266) (tm 272) (.lit (.bool false))) [266,272],oq 274 (.mv (tm 273)) [273],gt 275 274 (.load true 10 (tm 1)) [1,274],gt 276 274 (.call (.fn 19) [(.lit (.str [76,105,115,116])),(.lit .empty)]) [274],gt 277 274 (.call (.fn 40) [(tm 275),(tm 276)]) [275,276,274],gt 278 274 (ar .eql (tm 277) (zi 7)) [277,274],oq 279 (.pick (tm 274) (tm 278) (.lit (.bool false))) [274,278],oq 0 (.mv (tm 279)) [279]] [0,1,3,7,15,31,63,127,255,511,1023,2047,4095,8191,16383,32767,65535,131071,262143,524287,1048575,2097151,4194303,8388607,16777215,33554431,67108863,134217727,268435455,536870911,1073741823,2147483647,4294967295,8589934591,17179869183,34359738367,68719476735,137438953471,274877906943,549755813887,1099511627775,2199023255551,4398046511103,8796093022207,17592186044415,35184372088831,70368744177663,140737488355327,281474976710655,562949953421311,1125899906842623,2251799813685247,4503599627370495,9007199254740991,18014398509481983,36028797018963967,72057594037927935,144115188075855871,288230376151711743,576460752303423487,1152921504606846975,2305843009213693951,4611686018427387903,9223372036854775807,18446744073709551615,36893488147419103231,73786976294838206463,147573952589676412927,295147905179352825855,590295810358705651711,1180591620717411303423,2361183241434822606847,4722366482869645213695,9444732965739290427391,18889465931478580854783,37778931862957161709567,75557863725914323419135,151115727451828646838271,302231454903657293676543,604462909807314587353087,1208925819614629174706175,1208925819614629174706175,4835703278458516698824703,9671406556917033397649407,19342813113834066795298815,38685626227668133590597631,77371252455336267181195263,77371252455336267181195263,309485009821345068724781055,618970019642690137449562111,1237940039285380274899124223,2475880078570760549798248447,4951760157141521099596496895,4951760157141521099596496895,19807040628566084398385987583,39614081257132168796771975167,79228162514264337593543950335,158456325028528675187087900671,316912650057057350374175801343,316912650057057350374175801343,1267650600228229401496703205375,2535301200456458802993406410751,5070602400912917605986812821503,10141204801825835211973625643007,20282409603651670423947251286015,20282409603651670423947251286015,60847228810955011271841753858047,141976867225561692967630759002111,324518553658426726783156020576255,649037107316853453566312041152511,1298074214633706907132624082305023,2596148429267413814265248164610047,5192296858534827628530496329220095,5192296858534827628530496329220095,20769187434139310514121985316880383,41538374868278621028243970633760767,83076749736557242056487941267521535,166153499473114484112975882535043071] [0])
 .ret)))))))))))))))))))⟩
theorem good16:Good Tryz.prog (16,af16):=mkG Z0 [(0,[]),(1,[1]),(2,[1,2]),(3,[1,2]),(4,[1,2,3]),(5,[1,2,3,4]),(6,[1,2,3,4,5]),(7,[1,2,3,4,5,6]),(8,[1,2,3,4,5,6,7,8,9]),(9,[1,2,3,4,5,6,7,8,9,10,11,12]),(10,[1,2,3,4,5,6,7,8,9,10,11,12,13,14]),(11,[1,2,3,4,5,6,7,8,9,10,11,12,13,14,15,16]),(12,[1,2,3,4,5,6,7,8,9,10,11,12,13,14,15,16,17,18]),(13,[1,2,4,5,6,7,8,9,10,11,12,13,14,15,16,17,18,19,20]),(14,[1,2,4,5,6,7,8,9,10,11,12,13,14,15,16,17,18,19,20,21,22]),(15,[1,2,4,5,6,7,8,9,10,11,12,13,14,15,16,17,18,19,20,21,22,24]),(16,[1,2,4,5,6,7,8,9,10,11,12,13,14,15,16,17,18,19,20,21,22,24,25,26]),(17,[1,2,4,5,6,7,8,9,10,11,12,14,15,16,17,18,19,20,21,22,24,26,162]),(18,[0]),(19,[0])] Tryz.func16 (by kernel_rfl)
def af17:AFunc:=⟨5,1,[.cell 2 true 6],
 (.seq (rg [op 2 (.alloc z6)] [0,2])
 (.seq (rg [oq 4 (.build z6 [(0,1,(zi 1)),(2,1,(tm 0))]) [4],on (.store 6 (tm 2) (tm 4))] [2])
 .ret))⟩
theorem good17:Good Tryz.prog (17,af17):=mkG Z0 [(0,[0,2]),(1,[2])] Tryz.func17 (by kernel_rfl)
def af18:AFunc:=⟨2,0,[.cell 0 true 6],
 (.seq (rg [op 0 (.alloc z6)] [0])
 (.seq (rg [op 1 (.build z6 [(0,1,(zi 2))]),on (.store 6 (tm 0) (tm 1))] [0])
 .ret))⟩
theorem good18:Good Tryz.prog (18,af18):=mkG Z0 [(0,[0]),(1,[0])] Tryz.func18 (by kernel_rfl)
def af19:AFunc:=⟨8,2,[.cell 4 true 6],
 (.seq (rg [op 4 (.alloc z6)] [0,1,4])
 (.seq (rg [oq 7 (.build z6 [(0,1,(zi 6)),(2,1,(tm 0)),(3,1,(tm 1))]) [7],on (.store 6 (tm 4) (tm 7))] [4])
 .ret))⟩
theorem good19:Good Tryz.prog (19,af19):=mkG Z0 [(0,[0,1,4]),(1,[4])] Tryz.func19 (by kernel_rfl)
def af20:AFunc:=⟨14,2,[.cell 4 false 1,.tmp 5],
 (.seq (rg [oq 2 (.box (tm 0)) [5],op 3 (.box (tm 1)),op 4 (.alloc [(.bool false)])] [2,3,4])
 (.seq (rg [oq 6 (.mkFunc 64 [] [(tm 2),(tm 3),(tm 4)]) [7],op 5 (.call (.fn 54) [(tm 6)])] [4,5])
 (.seq (rg [oq 9 (l1 (tm 4)) [13],gt 10 9 (.mv (tm 5)) [],gt 11 9 (ar .eql (tm 10) (zi 0)) [],op 12 (.pick (tm 9) (tm 11) (.lit (.bool false))),op 13 (.mv (tm 5)),on (.store 1 (tm 4) (tm 12)),op 5 (.mv (tm 13))] [4,5])
 .ret)))⟩
theorem good20:Good Tryz.prog (20,af20):=mkG Z0 [(0,[2,3,4]),(1,[4,5]),(2,[4,5])] Tryz.func20 (by kernel_rfl)
def lp21_0:ACode:=
 (.seq (.seq (rg [oq 14 (.len false (tm 0)) [18],op 16 (ar .lss (tm 6) (tm 14)),gt 17 16 (.mv (tm 5)) [],op 18 (.pick (tm 16) (tm 17) (.lit (.bool false)))] [0,1,5,6,18])
 (.cond (tm 18) .skip
 (.exit 0)))
 (.seq (.block 1 (dr [oq 21 (.mv (tm 0)) [0],oq 22 (.mv (tm 6)) [6],oq 23 (.indexAddrS 6 (tm 21) (tm 22)) [21,22],oq 24 (.load true 6 (tm 23)) [23],oq 25 (.mv (tm 1)) [1],oq 26 (.mv (tm 6)) [6],oq 27 (.indexAddrS 6 (tm 25) (tm 26)) [25,26],oq 28 (.load true 6 (tm 27)) [27],oq 29 (.call (.fn 63) [(tm 24),(tm 28)]) [24,28],oq 5 (.mv (tm 29)) [29]] [0,0,3,7,0,0,48,112,255,511] [0,1,5,6]))
 (rg [oq 19 (.mv (tm 6)) [20],op 6 (ar .add (tm 19) (zi 1))] [0,1,5,6])))
def af21:AFunc:=⟨31,2,[.tmp 4],
 (.seq (rg [op 4 (.mv (tm 4))] [0,1])
 (.seq (rg [oq 8 (.len false (tm 0)) [11],op 10 (.len false (tm 1)),op 5 (ar .eql (tm 8) (tm 10))] [0,1,5])
 (.seq (.seq (rg [op 6 (.mv (zi 0))] [0,1,5,6])
 (.block 0 (.loop lp21_0)))
 (.seq (rg [oq 4 (.mv (tm 5)) [30]] [4])
 .ret))))⟩
theorem good21:Good Tryz.prog (21,af21):=mkG Z0 [(0,[0,1]),(1,[0,1,5]),(2,[0,1,5,6]),(3,[0,1,5,6,18]),(5,[0,1,5,6]),(4,[0,1,5,6]),(6,[4])] Tryz.func21 (by kernel_rfl)
def af22:AFunc:=⟨14,3,[.cell 6 false 1,.tmp 7],
 (.seq (rg [oq 3 (.box (tm 0)) [7],op 4 (.box (tm 1)),op 5 (.box (tm 2)),op 6 (.alloc [(.int .i64 0)])] [3,4,5,6])
 (.seq (rg [oq 8 (.mkFunc 68 [] [(tm 3),(tm 4),(tm 5),(tm 6)]) [9],op 7 (.call (.fn 54) [(tm 8)])] [6,7])
 (.seq (.seq (rg [oq 11 (ar .neq (tm 7) (zi 0)) [11]] [6,7,11])
 (.cond (tm 11) (.seq (rg [op 12 (.mv (tm 7)),on (.store 1 (tm 6) (zi 0)),op 7 (.mv (tm 12))] [6,7])
 .ret)
 .skip))
 (.seq (rg [ld 13 6,on (.store 1 (tm 6) (tm 13)),op 7 (.mv (zi 0))] [6,7])
 .ret))))⟩
theorem good22:Good Tryz.prog (22,af22):=mkG Z0 [(0,[3,4,5,6]),(1,[6,7]),(2,[6,7,11]),(3,[6,7]),(4,[6,7])] Tryz.func22 (by kernel_rfl)
def af23:AFunc:=⟨25,2,[.tmp 4],
 (.seq (rg [oq 2 (.box (tm 0)) [4],op 3 (.box (tm 1))] [2,3])
 (.seq (rg [oq 6 (.load true 10 (tm 2)) [7],op 5 (.call (.fn 29) [(tm 6)])] [2,3,5])
 (.seq (.seq (rg [oq 9 (ar .eql (tm 5) (zi 0)) [9]] [2,3,5,9])
 (.cond (tm 9) (rg [oq 10 (.load true 6 (tm 3)) [11],op 5 (.call (.fn 71) [(tm 10)])] [2,3,5])
 .skip))
 (.seq (.seq (rg [oq 14 (ar .eql (tm 5) (zi 0)) [18],gt 15 14 (.load true 6 (tm 3)) [],gt 16 14 (.call (.fn 72) [(tm 15)]) [],gt 17 14 (.not (tm 16)) [],op 18 (.pick (tm 14) (tm 17) (.lit (.bool false)))] [2,3,5,18])
 (.cond (tm 18) (rg [op 5 (.mv (zi 1))] [2,3,5])
 .skip))
 (.seq (.seq (rg [oq 20 (ar .eql (tm 5) (zi 0)) [20]] [2,3,5,20])
 (.cond (tm 20) (rg [oq 21 (.load true 10 (tm 2)) [23],op 22 (.load true 6 (tm 3)),op 5 (.call (.fn 73) [(tm 21),(.lit .empty),(tm 22)])] [5])
 .skip))
 (.seq (rg [oq 4 (.mv (tm 5)) [24]] [4])
 .ret))))))⟩
theorem good23:Good Tryz.prog (23,af23):=mkG Z0 [(0,[2,3]),(1,[2,3,5]),(2,[2,3,5,9]),(3,[2,3,5]),(4,[2,3,5,18]),(5,[2,3,5]),(6,[2,3,5,20]),(7,[5]),(8,[4])] Tryz.func23 (by kernel_rfl)
def af24:AFunc:=⟨14,3,[.cell 6 false 1,.tmp 7],
 (.seq (rg [oq 3 (.box (tm 0)) [7],op 4 (.box (tm 1)),op 5 (.box (tm 2)),op 6 (.allocRow 7)] [3,4,5,6])
 (.seq (rg [oq 8 (.mkFunc 74 [] [(tm 3),(tm 4),(tm 5),(tm 6)]) [9],op 7 (.call (.fn 54) [(tm 8)])] [6,7])
 (.seq (.seq (rg [oq 11 (ar .neq (tm 7) (zi 0)) [11]] [6,7,11])
 (.cond (tm 11) (.seq (rg [op 12 (.mv (tm 7)),on (.store 1 (tm 6) (.lit .empty)),op 7 (.mv (tm 12))] [6,7])
 .ret)
 .skip))
 (.seq (rg [ld 13 6,on (.store 1 (tm 6) (tm 13)),op 7 (.mv (zi 0))] [6,7])
 .ret))))⟩
theorem good24:Good Tryz.prog (24,af24):=mkG (fun t=>t==6) [(0,[3,4,5,6]),(1,[6,7]),(2,[6,7,11]),(3,[6,7]),(4,[6,7])] Tryz.func24 (by kernel_rfl)
def af26:AFunc:=⟨16,3,[.cell 6 false 1,.tmp 7],
 (.seq (rg [oq 3 (.box (tm 0)) [7],op 4 (.box (tm 1)),op 5 (.box (tm 2)),op 6 (.alloc [(.bool false)])] [3,4,5,6])
 (.seq (rg [oq 8 (.mkFunc 79 [] [(tm 3),(tm 4),(tm 5),(tm 6)]) [9],op 7 (.call (.fn 54) [(tm 8)])] [6,7])
 (.seq (rg [oq 11 (l1 (tm 6)) [15],gt 12 11 (.mv (tm 7)) [],gt 13 11 (ar .eql (tm 12) (zi 0)) [],op 14 (.pick (tm 11) (tm 13) (.lit (.bool false))),op 15 (.mv (tm 7)),on (.store 1 (tm 6) (tm 14)),op 7 (.mv (tm 15))] [6,7])
 .ret)))⟩
theorem good26:Good Tryz.prog (26,af26):=mkG Z0 [(0,[3,4,5,6]),(1,[6,7]),(2,[6,7])] Tryz.func26 (by kernel_rfl)
def af29:AFunc:=⟨20,1,[.tmp 2],
 (.seq (rg [oq 1 (.box (tm 0)) [2]] [1])
 (.seq (rg [oq 4 (.addOff 0 (tm 1)) [10],ld 5 4,ao 6 1 1,ld 7 6,op 8 (.build [(.int .i64 0),(.int .i64 0),(.str []),(.str []),(.slice []),(.slice []),(.slice [])] [(0,1,(zi 3))]),op 9 (.build [(.slice []),(.slice []),(.slice []),(.int .i64 0),(.int .i64 0),(.str []),(.str []),(.slice []),(.slice []),(.slice [])] [(0,1,(tm 5)),(1,1,(tm 7)),(3,7,(tm 8))]),op 3 (.call (.fn 84) [(tm 9)])] [1,3])
 (.seq (.seq (rg [oq 12 (ar .eql (tm 3) (zi 0)) [12]] [1,3,12])
 (.cond (tm 12) (rg [oq 13 (.load true 10 (tm 1)) [14],op 3 (.call (.fn 85) [(tm 13)])] [1,3])
 .skip))
 (.seq (.seq (rg [oq 16 (ar .eql (tm 3) (zi 0)) [16]] [1,3,16])
 (.cond (tm 16) (rg [oq 17 (.load true 10 (tm 1)) [18],op 3 (.call (.fn 86) [(tm 17)])] [3])
 .skip))
 (.seq (rg [oq 2 (.mv (tm 3)) [19]] [2])
 .ret)))))⟩
theorem good29:Good Tryz.prog (29,af29):=mkG (fun t=>t==8||t==9) [(0,[1]),(1,[1,3]),(2,[1,3,12]),(3,[1,3]),(4,[1,3,16]),(5,[3]),(6,[2])] Tryz.func29 (by kernel_rfl)
def lp30_0:ACode:=
 (.seq (rg [op 14 (ar .lss (tm 13) (tm 12))] [3,11,12,13,14])
 (.seq (.cond (tm 14) .skip
 (.exit 0))
 (.seq (.block 1 (.seq (rg [oq 16 (.indexAddrS 3 (tm 11) (tm 13)) [17],op 17 (.load true 3 (tm 16)),op 8 (.alloc z3),op 7 (.mv (tm 13)),on (.store 3 (tm 8) (tm 17))] [3,7,8,11,12,13])
 (.seq (rg [oq 18 (.addOff 2 (tm 8)) [21],ld 19 18,op 20 (.mkFunc 88 [] [(tm 3)]),op 9 (.call (.fn 87) [(tm 19),(tm 20)])] [3,7,9,11,12,13])
 (.seq (rg [oq 23 (ar .geq (tm 9) (zi 0)) [23]] [3,7,9,11,12,13,23])
 (.cond (tm 23) (.seq (rg [oq 4 (.mv (tm 7)) [25],op 5 (.mv (tm 9)),op 6 (.mv (zi 0))] [4,5,6])
 .ret)
 .skip)))))
 (rg [oq 13 (ar .add (tm 13) (zi 1)) [26]] [3,11,12,13]))))
def af30:AFunc:=⟨27,2,[.tmp 4,.tmp 5,.tmp 6],
 (.seq (rg [oq 2 (.box (tm 0)) [6],op 3 (.box (tm 1))] [2,3])
 (.seq (.seq (rg [ao 10 0 2,ld 11 10,op 12 (.len false (tm 11)),op 13 (.mv (zi 0))] [3,11,12,13])
 (.block 0 (.loop lp30_0)))
 (.seq (rg [op 4 (.mv (zi 0)),op 5 (.mv (zi 0)),op 6 (.mv (zi 6))] [4,5,6])
 .ret)))⟩
theorem good30:Good Tryz.prog (30,af30):=mkG Z0 [(0,[2,3]),(1,[3,11,12,13]),(2,[3,11,12,13,14]),(3,[3,7,8,11,12,13]),(4,[3,7,9,11,12,13]),(5,[3,7,9,11,12,13,23]),(6,[4,5,6]),(7,[3,11,12,13]),(8,[4,5,6])] Tryz.func30 (by kernel_rfl)
def lp31_0:ACode:=
 (.seq (.seq (rg [oq 17 (.addOff 0 (tm 2)) [24],ld 18 17,op 20 (.indexAddrS 3 (tm 18) (tm 7)),ao 21 2 20,ld 22 21,op 23 (.len false (tm 22)),op 24 (ar .lss (tm 8) (tm 23))] [1,2,7,8,24])
 (.cond (tm 24) .skip
 (.exit 2)))
 (.seq (.block 3 (.seq (rg [oq 27 (.addOff 0 (tm 2)) [38],ld 28 27,op 30 (.indexAddrS 3 (tm 28) (tm 7)),ao 31 2 30,ld 32 31,op 34 (.indexAddrS 2 (tm 32) (tm 8)),ao 35 0 34,ld 36 35,op 38 (ar .eql (tm 36) (tm 1))] [1,2,7,8,38])
 (.cond (tm 38) (.seq (rg [oq 4 (.mv (tm 7)) [40],op 5 (.mv (tm 8)),op 6 (.mv (zi 0))] [4,5,6])
 .ret)
 .skip)))
 (rg [oq 25 (.mv (tm 8)) [26],op 8 (ar .add (tm 25) (zi 1))] [1,2,7,8])))
def lp31_1:ACode:=
 (.seq (.seq (rg [oq 10 (.addOff 0 (tm 2)) [13],ld 11 10,op 12 (.len false (tm 11)),op 13 (ar .lss (tm 7) (tm 12))] [1,2,7,13])
 (.cond (tm 13) .skip
 (.exit 0)))
 (.seq (.block 1 (.seq (rg [op 8 (.mv (zi 0))] [1,2,7,8])
 (.block 2 (.loop lp31_0))))
 (rg [oq 14 (.mv (tm 7)) [15],op 7 (ar .add (tm 14) (zi 1))] [1,2,7])))
def af31:AFunc:=⟨41,2,[.tmp 4,.tmp 5,.tmp 6],
 (.seq (rg [oq 2 (.box (tm 0)) [6]] [1,2])
 (.seq (.seq (rg [op 7 (.mv (zi 0))] [1,2,7])
 (.block 0 (.loop lp31_1)))
 (.seq (rg [op 4 (.mv (zi 0)),op 5 (.mv (zi 0)),op 6 (.mv (zi 6))] [4,5,6])
 .ret)))⟩
theorem good31:Good Tryz.prog (31,af31):=mkG Z0 [(0,[1,2]),(1,[1,2,7]),(2,[1,2,7,13]),(4,[1,2,7,8]),(5,[1,2,7,8,24]),(7,[1,2,7,8,38]),(8,[4,5,6]),(6,[1,2,7,8]),(3,[1,2,7]),(9,[4,5,6])] Tryz.func31 (by kernel_rfl)
def lp32_0:ACode:=
 (.seq (rg [op 14 (ar .lss (tm 13) (tm 12))] [1,2,12,13,14])
 (.seq (.cond (tm 14) .skip
 (.exit 0))
 (.seq (.block 1 (.seq (rg [oq 7 (.mv (tm 13)) [15]] [1,2,7,12,13])
 (.seq (rg [oq 16 (.load true 10 (tm 2)) [20],op 18 (.call (.fn 90) [(tm 16),(tm 7)]),op 8 (.call (.fn 89) [(tm 18),(tm 1)])] [1,2,7,8,12,13])
 (.seq (rg [oq 22 (ar .geq (tm 8) (zi 0)) [22]] [1,2,7,8,12,13,22])
 (.cond (tm 22) (.seq (rg [oq 4 (.mv (tm 7)) [24],op 5 (.mv (tm 8)),op 6 (.mv (zi 0))] [4,5,6])
 .ret)
 .skip)))))
 (rg [oq 13 (ar .add (tm 13) (zi 1)) [25]] [1,2,12,13]))))
def af32:AFunc:=⟨33,2,[.tmp 4,.tmp 5,.tmp 6],
 (.seq (rg [oq 2 (.box (tm 0)) [6]] [1,2])
 (.seq (.seq (rg [ao 10 1 2,ld 11 10,op 12 (.len false (tm 11)),op 13 (.mv (zi 0))] [1,2,12,13])
 (.block 0 (.loop lp32_0)))
 (.seq (.seq (rg [oq 26 (.load true 10 (tm 2)) [29],op 27 (.call (.fn 90) [(tm 26),(zi (-1))]),op 9 (.call (.fn 89) [(tm 27),(tm 1)])] [9])
 (.seq (rg [oq 31 (ar .geq (tm 9) (zi 0)) [31]] [9,31])
 (.cond (tm 31) (.seq (rg [oq 4 (.mv (zi (-1))) [32],op 5 (.mv (tm 9)),op 6 (.mv (zi 0))] [4,5,6])
 .ret)
 .skip)))
 (.seq (rg [op 4 (.mv (zi 0)),op 5 (.mv (zi 0)),op 6 (.mv (zi 6))] [4,5,6])
 .ret))))⟩
theorem good32:Good Tryz.prog (32,af32):=mkG Z0 [(0,[1,2]),(1,[1,2,12,13]),(2,[1,2,12,13,14]),(3,[1,2,7,12,13]),(4,[1,2,7,8,12,13]),(5,[1,2,7,8,12,13,22]),(6,[4,5,6]),(7,[1,2,12,13]),(8,[9]),(9,[9,31]),(10,[4,5,6]),(11,[4,5,6])] Tryz.func32 (by kernel_rfl)
def af34:AFunc:=⟨16,2,[.tmp 4,.tmp 5],
 (.seq (rg [oq 2 (.box (tm 0)) [5],op 3 (.box (tm 1))] [2,3])
 (.seq (.seq (rg [oq 7 (.addOff 1 (tm 2)) [10],ld 8 7,op 9 (.mkFunc 93 [] [(tm 3)]),op 6 (.call (.fn 92) [(tm 8),(tm 9)])] [3,6])
 (.seq (rg [oq 12 (ar .geq (tm 6) (zi 0)) [12]] [3,6,12])
 (.cond (tm 12) (.seq (rg [oq 4 (.mv (tm 6)) [13],op 5 (.mv (zi 0))] [4,5])
 .ret)
 .skip)))
 (.seq (.seq (rg [ld 14 3,op 15 (ar .eql (tm 14) (.lit (.str [73,79])))] [15])
 (.cond (tm 15) (.seq (rg [op 4 (.mv (zi (-1))),op 5 (.mv (zi 0))] [4,5])
 .ret)
 .skip))
 (.seq (rg [op 4 (.mv (zi 0)),op 5 (.mv (zi 6))] [4,5])
 .ret))))⟩
theorem good34:Good Tryz.prog (34,af34):=mkG Z0 [(0,[2,3]),(1,[3,6]),(2,[3,6,12]),(3,[4,5]),(4,[15]),(5,[4,5]),(6,[4,5])] Tryz.func34 (by kernel_rfl)
def lp35_0:ACode:=
 (.seq (.seq (rg [oq 8 (.addOff 1 (tm 2)) [11],ld 9 8,op 10 (.len false (tm 9)),op 11 (ar .lss (tm 6) (tm 10))] [1,2,6,11])
 (.cond (tm 11) .skip
 (.exit 0)))
 (.seq (.block 1 (.seq (rg [oq 14 (.addOff 1 (tm 2)) [21],ld 15 14,op 17 (.indexAddrS 2 (tm 15) (tm 6)),ao 18 0 17,ld 19 18,op 21 (ar .eql (tm 19) (tm 1))] [1,2,6,21])
 (.cond (tm 21) (.seq (rg [oq 4 (.mv (tm 6)) [22],op 5 (.mv (zi 0))] [4,5])
 .ret)
 .skip)))
 (rg [oq 12 (.mv (tm 6)) [13],op 6 (ar .add (tm 12) (zi 1))] [1,2,6])))
def af35:AFunc:=⟨25,2,[.tmp 4,.tmp 5],
 (.seq (rg [oq 2 (.box (tm 0)) [5]] [1,2])
 (.seq (.seq (rg [op 6 (.mv (zi 0))] [1,2,6])
 (.block 0 (.loop lp35_0)))
 (.seq (.seq (rg [oq 24 (ar .eql (tm 1) (.lit (.str [73,79]))) [24]] [24])
 (.cond (tm 24) (.seq (rg [op 4 (.mv (zi (-1))),op 5 (.mv (zi 0))] [4,5])
 .ret)
 .skip))
 (.seq (rg [op 4 (.mv (zi 0)),op 5 (.mv (zi 6))] [4,5])
 .ret))))⟩
theorem good35:Good Tryz.prog (35,af35):=mkG Z0 [(0,[1,2]),(1,[1,2,6]),(2,[1,2,6,11]),(4,[1,2,6,21]),(5,[4,5]),(3,[1,2,6]),(6,[24]),(7,[4,5]),(8,[4,5])] Tryz.func35 (by kernel_rfl)
def af36:AFunc:=⟨5,1,[.tmp 2],
 (.seq (rg [oq 1 (.box (tm 0)) [2]] [1])
 (.seq (rg [oq 3 (.mkFunc 94 [] [(tm 1)]) [4],op 2 (.call (.fn 54) [(tm 3)])] [2])
 .ret))⟩
theorem good36:Good Tryz.prog (36,af36):=mkG Z0 [(0,[1]),(1,[2])] Tryz.func36 (by kernel_rfl)
def af38:AFunc:=⟨7,2,[.tmp 4],
 (.seq (rg [oq 2 (.box (tm 0)) [4],op 3 (.box (tm 1))] [2,3])
 (.seq (rg [oq 5 (.mkFunc 98 [] [(tm 2),(tm 3)]) [6],op 4 (.call (.fn 54) [(tm 5)])] [4])
 .ret))⟩
theorem good38:Good Tryz.prog (38,af38):=mkG Z0 [(0,[2,3]),(1,[4])] Tryz.func38 (by kernel_rfl)
def af40:AFunc:=⟨7,2,[.tmp 4],
 (.seq (rg [oq 2 (.box (tm 0)) [4],op 3 (.box (tm 1))] [2,3])
 (.seq (rg [oq 5 (.mkFunc 100 [] [(tm 2),(tm 3)]) [6],op 4 (.call (.fn 54) [(tm 5)])] [4])
 .ret))⟩
theorem good40:Good Tryz.prog (40,af40):=mkG Z0 [(0,[2,3]),(1,[4])] Tryz.func40 (by kernel_rfl)
def lp41_0:ACode:=
 (.seq (.seq (rg [oq 44 (.len false (tm 2)) [45],op 45 (ar .lss (tm 12) (tm 44))] [2,10,11,12,45])
 (.cond (tm 45) .skip
 (.exit 0)))
 (.seq (.block 1 (.seq (rg [oq 50 (.indexAddrS 6 (tm 2) (tm 12)) [52],op 51 (.load true 6 (tm 50)),op 8 (.call (.fn 71) [(tm 51)])] [2,8,10,11,12])
 (.seq (rg [oq 54 (ar .neq (tm 8) (zi 0)) [54]] [2,8,10,11,12,54])
 (.cond (tm 54) (.seq (rg [oq 6 (.mv (.lit .empty)) [55],op 7 (.mv (tm 8))] [6,7])
 .ret)
 .skip))))
 (rg [oq 46 (.mv (tm 12)) [47],op 12 (ar .add (tm 46) (zi 1))] [2,10,11,12])))
def lp41_1:ACode:=
 (.seq (.seq (rg [oq 57 (.addOff 2 (tm 11)) [64],ld 58 57,op 60 (.indexAddrS 2 (tm 58) (tm 10)),ao 61 1 60,ld 62 61,op 63 (.len false (tm 62)),op 64 (ar .lss (tm 14) (tm 63))] [2,10,11,13,14,64])
 (.cond (tm 64) .skip
 (.exit 2)))
 (.seq (.block 3 (.seq (dr [aq 67 2 11,lq 68 67,oq 69 (.mv (tm 10)) [10],oq 70 (.indexAddrS 2 (tm 68) (tm 69)) [68,69],aq 71 1 70,lq 72 71,oq 73 (.mv (tm 14)) [14],oq 74 (.indexAddrS 6 (tm 72) (tm 73)) [72,73],oq 75 (.load true 6 (tm 74)) [74],aq 76 1 11,lq 77 76,oq 78 (.mv (tm 2)) [2],oq 79 (.call (.fn 101) [(tm 75),(tm 77),(tm 78)]) [75,77,78],op 15 (.alloc z6),om (.store 6 (tm 15) (tm 79)) [15,79]] [0,1,0,7,15,31,0,127,255,0,512,0,4095,0,16383] [2,10,11,13,14,15])
 (.seq (.seq (rg [op 80 (.load true 6 (tm 15)),op 81 (.call (.fn 71) [(tm 80)]),op 82 (ar .neq (tm 81) (zi 0))] [2,10,11,13,14,15,82])
 (.cond (tm 82) (.seq (rg [op 6 (.mv (.lit .empty)),op 7 (.mv (zi 3))] [6,7])
 .ret)
 .skip))
 (rg [oq 83 (.mv (tm 13)) [86],op 84 (.load true 6 (tm 15)),op 85 (.buildSlice 6 1 z6 [(0,(tm 84))]),op 13 (.append 6 88 (tm 83) (tm 85))] [2,10,11,13,14]))))
 (rg [oq 65 (.mv (tm 14)) [66],op 14 (ar .add (tm 65) (zi 1))] [2,10,11,13,14])))
def af41:AFunc:=⟨88,3,[.tmp 6,.tmp 7],
 (.seq (rg [oq 3 (.box (tm 0)) [7]] [1,2,3])
 (.seq (rg [oq 16 (.load true 10 (tm 3)) [17],op 8 (.call (.fn 29) [(tm 16)])] [1,2,3,8])
 (.seq (.seq (rg [oq 19 (ar .neq (tm 8) (zi 0)) [19]] [1,2,3,8,19])
 (.cond (tm 19) (.seq (rg [oq 6 (.mv (.lit .empty)) [20],op 7 (.mv (tm 8))] [6,7])
 .ret)
 .skip))
 (.seq (rg [oq 22 (.load true 10 (tm 3)) [27],op 21 (.call (.fn 31) [(tm 22),(tm 1)]),op 25 (.extract (tm 21) 0),op 26 (.extract (tm 21) 1),op 27 (.extract (tm 21) 2),op 9 (.mv (tm 25)),op 10 (.mv (tm 26)),op 8 (.mv (tm 27))] [2,3,8,9,10])
 (.seq (.seq (rg [oq 29 (ar .neq (tm 8) (zi 0)) [29]] [2,3,8,9,10,29])
 (.cond (tm 29) (.seq (rg [oq 6 (.mv (.lit .empty)) [30],op 7 (.mv (tm 8))] [6,7])
 .ret)
 .skip))
 (.seq (rg [oq 31 (.addOff 0 (tm 3)) [35],ld 32 31,op 34 (.indexAddrS 3 (tm 32) (tm 9)),op 35 (.load true 3 (tm 34)),op 11 (.alloc z3),on (.store 3 (tm 11) (tm 35))] [2,10,11])
 (.seq (.seq (rg [oq 37 (.len false (tm 2)) [41],ao 38 1 11,ld 39 38,op 40 (.len false (tm 39)),op 41 (ar .neq (tm 37) (tm 40))] [2,10,11,41])
 (.cond (tm 41) (.seq (rg [op 6 (.mv (.lit .empty)),op 7 (.mv (zi 7))] [6,7])
 .ret)
 .skip))
 (.seq (.seq (rg [op 12 (.mv (zi 0))] [2,10,11,12])
 (.block 0 (.loop lp41_0)))
 (.seq (rg [op 13 (.newrow 6)] [2,10,11,13])
 (.seq (.seq (rg [op 14 (.mv (zi 0))] [2,10,11,13,14])
 (.block 2 (.loop lp41_1)))
 (.seq (rg [oq 6 (.mv (tm 13)) [87],op 7 (.mv (zi 0))] [6,7])
 .ret)))))))))))⟩
theorem good41:Good Tryz.prog (41,af41):=mkG (fun t=>t==13) [(0,[1,2,3]),(1,[1,2,3,8]),(2,[1,2,3,8,19]),(3,[6,7]),(4,[2,3,8,9,10]),(5,[2,3,8,9,10,29]),(6,[6,7]),(7,[2,10,11]),(8,[2,10,11,41]),(9,[6,7]),(10,[2,10,11,12]),(11,[2,10,11,12,45]),(13,[2,8,10,11,12]),(14,[2,8,10,11,12,54]),(15,[6,7]),(12,[2,10,11,12]),(16,[2,10,11,13]),(17,[2,10,11,13,14]),(18,[2,10,11,13,14,64]),(20,[2,10,11,13,14,15]),(21,[2,10,11,13,14,15,82]),(22,[6,7]),(23,[2,10,11,13,14]),(19,[2,10,11,13,14]),(24,[6,7])] Tryz.func41 (by kernel_rfl)
def af46:AFunc:=⟨42,0,[.cell 0 true 10],
 (.seq (rg [op 0 (.alloc z10)] [0])
 (.seq (rg [op 1 (.buildSlice 1 1 [(.str [])] [(0,(.lit (.str [97])))]),op 2 (.build z2a [(0,1,(.lit (.str [78,105,108])))]),op 3 (.call (.fn 17) [(.lit (.str [97]))]),op 4 (.call (.fn 17) [(.lit (.str [97]))]),op 5 (.buildSlice 6 1 z6 [(0,(tm 4))]),op 6 (.call (.fn 19) [(.lit (.str [76,105,115,116])),(tm 5)]),op 7 (.buildSlice 6 2 z6 [(0,(tm 3)),(1,(tm 6))]),op 8 (.build z2a [(0,1,(.lit (.str [67,111,110,115]))),(1,1,(tm 7))]),op 9 (.buildSlice 2 2 z2a [(0,(tm 2)),(1,(tm 8))]),op 10 (.build z3 [(0,1,(.lit (.str [76,105,115,116]))),(1,1,(tm 1)),(2,1,(tm 9))]),op 11 (.build z3 [(0,1,(.lit (.str [86,111,105,100])))]),op 12 (.build z2a [(0,1,(.lit (.str [76,101,97,102])))]),op 13 (.call (.fn 19) [(.lit (.str [84,114,101,101])),(.lit .empty)]),op 14 (.call (.fn 18) []),op 15 (.call (.fn 19) [(.lit (.str [84,114,101,101])),(.lit .empty)]),op 16 (.buildSlice 6 3 z6 [(0,(tm 13)),(1,(tm 14)),(2,(tm 15))]),op 17 (.build z2a [(0,1,(.lit (.str [78,111,100,101]))),(1,1,(tm 16))]),op 18 (.buildSlice 2 2 z2a [(0,(tm 12)),(1,(tm 17))]),op 19 (.build z3 [(0,1,(.lit (.str [84,114,101,101]))),(2,1,(tm 18))]),op 20 (.call (.fn 19) [(.lit (.str [76,111,111,112])),(.lit .empty)]),op 21 (.buildSlice 6 1 z6 [(0,(tm 20))]),op 22 (.build z2a [(0,1,(.lit (.str [77,111,114,101]))),(1,1,(tm 21))]),op 23 (.buildSlice 2 1 z2a [(0,(tm 22))]),op 24 (.build z3 [(0,1,(.lit (.str [76,111,111,112]))),(2,1,(tm 23))]),op 25 (.buildSlice 3 4 z3 [(0,(tm 10)),(1,(tm 11)),(2,(tm 19)),(3,(tm 24))]),op 26 (.call (.fn 53) []),op 27 (.call (.fn 18) []),op 28 (.build z14 [(0,1,(.lit (.str [103,101,116]))),(1,6,(tm 26)),(7,6,(tm 27))]),op 29 (.call (.fn 18) []),op 30 (.call (.fn 53) []),op 31 (.build z14 [(0,1,(.lit (.str [112,117,116]))),(1,6,(tm 29)),(7,6,(tm 30))]),op 32 (.buildSlice 14 2 z14 [(0,(tm 28)),(1,(tm 31))]),op 33 (.build z2a [(0,1,(.lit (.str [83,116,97,116,101]))),(1,1,(tm 32))]),op 34 (.call (.fn 53) []),op 35 (.call (.fn 19) [(.lit (.str [86,111,105,100])),(.lit .empty)]),op 36 (.build z14 [(0,1,(.lit (.str [114,97,105,115,101]))),(1,6,(tm 34)),(7,6,(tm 35)),(13,1,(.lit (.bool true)))]),op 37 (.buildSlice 14 1 z14 [(0,(tm 36))]),op 38 (.build z2a [(0,1,(.lit (.str [69,120,99]))),(1,1,(tm 37))]),op 39 (.buildSlice 2 2 z2a [(0,(tm 33)),(1,(tm 38))]),op 40 (.build z7a [(0,1,(zi 3))]),op 41 (.build z10 [(0,1,(tm 25)),(1,1,(tm 39)),(3,7,(tm 40))]),on (.store 10 (tm 0) (tm 41))] [0])
 .ret))⟩
theorem good46:Good Tryz.prog (46,af46):=mkG Z0 [(0,[0]),(1,[0])] Tryz.func46 (by kernel_rfl)
def lp47_0:ACode:=
 (.seq (.seq (rg [oq 16 (.len false (tm 2)) [17],op 17 (ar .lss (tm 8) (tm 16))] [2,6,7,8,17])
 (.cond (tm 17) .skip
 (.exit 0)))
 (.seq (.block 1 (dr [op 20 (.buildSlice 2 0 [(.str []),(.int .i64 0)] []),aq 21 4 7,aq 22 0 21,lq 23 22,oq 24 (.append 2 24 (tm 20) (tm 23)) [20,23],oq 25 (.mv (tm 2)) [2],oq 26 (.mv (tm 8)) [8],oq 27 (.indexAddrS 1 (tm 25) (tm 26)) [25,26],lq 28 27,oq 29 (.build [(.str []),(.int .i64 0)] [(0,1,(tm 28))]) [28],oq 30 (.buildSlice 2 1 [(.str []),(.int .i64 0)] [(0,(tm 29))]) [29],oq 31 (.append 2 24 (tm 24) (tm 30)) [24,30],aq 32 4 7,aq 33 0 32,om (.store 1 (tm 33) (tm 31)) [33,31]] [0,0,2,6,15,0,0,96,224,480,992,2047,4095,8191,16383] [2,6,7,8]))
 (rg [oq 18 (.mv (tm 8)) [19],op 8 (ar .add (tm 18) (zi 1))] [2,6,7,8])))
def af47:AFunc:=⟨35,3,[.cell 6 true 6],
 (.seq (rg [op 3 (.box (tm 0)),op 4 (.box (tm 1)),op 6 (.alloc z6)] [2,3,4,6])
 (.seq (rg [op 9 (.load true 6 (tm 3)),op 10 (.load true 6 (tm 4)),op 11 (.buildSlice 6 2 z6 [(0,(tm 9)),(1,(tm 10))]),op 12 (.build [.empty,(.int .i64 0)] [(1,1,(zi (-1)))]),op 13 (.build z6 [(0,1,(zi 5)),(3,1,(tm 11)),(4,2,(tm 12))]),op 7 (.alloc z6),on (.store 6 (tm 7) (tm 13))] [2,6,7])
 (.seq (.seq (rg [op 8 (.mv (zi 0))] [2,6,7,8])
 (.block 0 (.loop lp47_0)))
 (.seq (rg [op 34 (.load true 6 (tm 7)),on (.store 6 (tm 6) (tm 34))] [6])
 .ret))))⟩
theorem good47:Good Tryz.prog (47,af47):=mkG Z0 [(0,[2,3,4,6]),(1,[2,6,7]),(2,[2,6,7,8]),(3,[2,6,7,8,17]),(5,[2,6,7,8]),(4,[2,6,7,8]),(6,[6])] Tryz.func47 (by kernel_rfl)
def af48:AFunc:=⟨2,0,[.cell 0 true 6],
 (.seq (rg [op 0 (.alloc z6)] [0])
 (.seq (rg [op 1 (.build z6 [(0,1,(zi 3))]),on (.store 6 (tm 0) (tm 1))] [0])
 .ret))⟩
theorem good48:Good Tryz.prog (48,af48):=mkG Z0 [(0,[0]),(1,[0])] Tryz.func48 (by kernel_rfl)
def af49:AFunc:=⟨8,2,[.cell 4 true 7],
 (.seq (rg [op 4 (.alloc z7a)] [0,1,4])
 (.seq (rg [oq 7 (.build z7a [(0,1,(zi 10)),(2,1,(tm 0)),(5,1,(tm 1))]) [7],on (.store 7 (tm 4) (tm 7))] [4])
 .ret))⟩
theorem good49:Good Tryz.prog (49,af49):=mkG Z0 [(0,[0,1,4]),(1,[4])] Tryz.func49 (by kernel_rfl)
def af50:AFunc:=⟨5,1,[.cell 2 true 7],
 (.seq (rg [op 2 (.alloc z7a)] [0,2])
 (.seq (rg [oq 4 (.build z7a [(0,1,(zi 1)),(1,1,(tm 0))]) [4],on (.store 7 (tm 2) (tm 4))] [2])
 .ret))⟩
theorem good50:Good Tryz.prog (50,af50):=mkG Z0 [(0,[0,2]),(1,[2])] Tryz.func50 (by kernel_rfl)
def lp51_0:ACode:=
 (.seq (.seq (rg [oq 60 (.addOff 5 (tm 2)) [63],ld 61 60,op 62 (.len false (tm 61)),op 63 (ar .lss (tm 5) (tm 62))] [2,3,5,63])
 (.cond (tm 63) .skip
 (.exit 0)))
 (.seq (.block 1 (.seq (dr [aq 66 5 2,lq 67 66,oq 68 (.mv (tm 5)) [5],oq 69 (.indexAddrS 7 (tm 67) (tm 68)) [67,68],oq 70 (.load true 7 (tm 69)) [69],aq 71 5 3,lq 72 71,oq 73 (.mv (tm 5)) [5],oq 74 (.indexAddrS 7 (tm 72) (tm 73)) [72,73],oq 75 (.load true 7 (tm 74)) [74],oq 76 (.call (.fn 51) [(tm 70),(tm 75)]) [70,75],oq 77 (.not (tm 76)) [76]] [0,1,0,7,15,0,32,0,224,480,1023,2047] [2,3,5,77])
 (.cond (tm 77) (.seq (rg [op 4 (.mv (.lit (.bool false)))] [4])
 .ret)
 .skip)))
 (rg [oq 64 (.mv (tm 5)) [65],op 5 (ar .add (tm 64) (zi 1))] [2,3,5])))
def lp51_1:ACode:=
 (.seq (.seq (rg [oq 79 (.addOff 6 (tm 2)) [82],ld 80 79,op 81 (.len false (tm 80)),op 82 (ar .lss (tm 6) (tm 81))] [2,3,6,82])
 (.cond (tm 82) .skip
 (.exit 2)))
 (.seq (.block 3 (.seq (dr [aq 85 6 2,lq 86 85,oq 87 (.mv (tm 6)) [6],oq 88 (.indexAddrS 9 (tm 86) (tm 87)) [86,87],aq 89 0 88,lq 90 89,aq 91 6 3,lq 92 91,oq 93 (.mv (tm 6)) [6],oq 94 (.indexAddrS 9 (tm 92) (tm 93)) [92,93],aq 95 0 94,lq 96 95,oq 97 (ar .neq (tm 90) (tm 96)) [90,96],oq 98 (.mv (tm 97)) [97],gf 99 98 (.addOff 6 (tm 2)) [2,98],gf 100 98 (l1 (tm 99)) [99,98],gf 101 98 (.mv (tm 6)) [6,98],gf 102 98 (.indexAddrS 9 (tm 100) (tm 101)) [100,101,98],gf 103 98 (.addOff 1 (tm 102)) [102,98],gf 104 98 (l1 (tm 103)) [103,98],gf 105 98 (.addOff 6 (tm 3)) [3,98],gf 106 98 (l1 (tm 105)) [105,98],gf 107 98 (.mv (tm 6)) [6,98],gf 108 98 (.indexAddrS 9 (tm 106) (tm 107)) [106,107,98],gf 109 98 (.addOff 1 (tm 108)) [108,98],gf 110 98 (l1 (tm 109)) [109,98],gf 111 98 (.call (.fn 108) [(tm 104),(tm 110)]) [104,110,98],gf 112 98 (.not (tm 111)) [111,98],oq 113 (.pick (tm 98) (.lit (.bool true)) (tm 112)) [98,112],oq 114 (.mv (tm 113)) [113],gf 115 114 (.addOff 6 (tm 2)) [2,114],gf 116 114 (l1 (tm 115)) [115,114],gf 117 114 (.mv (tm 6)) [6,114],gf 118 114 (.indexAddrS 9 (tm 116) (tm 117)) [116,117,114],gf 119 114 (.addOff 2 (tm 118)) [118,114],gf 120 114 (.load true 7 (tm 119)) [119,114],gf 121 114 (.addOff 6 (tm 3)) [3,114],gf 122 114 (l1 (tm 121)) [121,114],gf 123 114 (.mv (tm 6)) [6,114],gf 124 114 (.indexAddrS 9 (tm 122) (tm 123)) [122,123,114],gf 125 114 (.addOff 2 (tm 124)) [124,114],gf 126 114 (.load true 7 (tm 125)) [125,114],gf 127 114 (.call (.fn 51) [(tm 120),(tm 126)]) [120,126,114],gf 128 114 (.not (tm 127)) [127,114],oq 129 (.pick (tm 114) (.lit (.bool true)) (tm 128)) [114,128]] [0,1,0,7,15,31,0,64,0,448,960,1984,4095,8191,16383,32767,16383,131071,262143,524287,16383,1064959,16383,7356415,15745023,32522239,67108863,134217727,268435455,536870911,1073741823,2147483647,1073741823,8589934591,17179869183,34359738367,1073741823,69793218559,1073741823,482110078975,1031865892863,2131377520639,4398046511103,8796093022207,17592186044415] [2,3,6,129])
 (.cond (tm 129) (.seq (rg [op 4 (.mv (.lit (.bool false)))] [4])
 .ret)
 .skip)))
 (rg [oq 83 (.mv (tm 6)) [84],op 6 (ar .add (tm 83) (zi 1))] [2,3,6])))
def af51:AFunc:=⟨130,2,[.tmp 4],
 (.seq (rg [oq 2 (.box (tm 0)) [4],op 3 (.box (tm 1))] [2,3])
 (.seq (.seq (rg [oq 7 (.addOff 0 (tm 2)) [58],ld 8 7,ao 9 0 3,ld 10 9,op 12 (ar .neq (tm 8) (tm 10)),gf 13 12 (.addOff 1 (tm 2)) [],gf 14 12 (l1 (tm 13)) [],gf 15 12 (.addOff 1 (tm 3)) [],gf 16 12 (l1 (tm 15)) [],gf 17 12 (ar .neq (tm 14) (tm 16)) [],op 19 (.pick (tm 12) (.lit (.bool true)) (tm 17)),gf 20 19 (.addOff 2 (tm 2)) [],gf 21 19 (l1 (tm 20)) [],gf 22 19 (.addOff 2 (tm 3)) [],gf 23 19 (l1 (tm 22)) [],gf 24 19 (ar .neq (tm 21) (tm 23)) [],op 26 (.pick (tm 19) (.lit (.bool true)) (tm 24)),gf 27 26 (.addOff 3 (tm 2)) [],gf 28 26 (l1 (tm 27)) [],gf 29 26 (.addOff 3 (tm 3)) [],gf 30 26 (l1 (tm 29)) [],gf 31 26 (ar .neq (tm 28) (tm 30)) [],op 33 (.pick (tm 26) (.lit (.bool true)) (tm 31)),gf 34 33 (.addOff 4 (tm 2)) [],gf 35 33 (l1 (tm 34)) [],gf 36 33 (.addOff 4 (tm 3)) [],gf 37 33 (l1 (tm 36)) [],gf 38 33 (.call (.fn 108) [(tm 35),(tm 37)]) [],gf 39 33 (.not (tm 38)) [],op 41 (.pick (tm 33) (.lit (.bool true)) (tm 39)),gf 42 41 (.addOff 5 (tm 2)) [],gf 43 41 (l1 (tm 42)) [],gf 44 41 (.len false (tm 43)) [],gf 45 41 (.addOff 5 (tm 3)) [],gf 46 41 (l1 (tm 45)) [],gf 47 41 (.len false (tm 46)) [],gf 48 41 (ar .neq (tm 44) (tm 47)) [],op 50 (.pick (tm 41) (.lit (.bool true)) (tm 48)),gf 51 50 (.addOff 6 (tm 2)) [],gf 52 50 (l1 (tm 51)) [],gf 53 50 (.len false (tm 52)) [],gf 54 50 (.addOff 6 (tm 3)) [],gf 55 50 (l1 (tm 54)) [],gf 56 50 (.len false (tm 55)) [],gf 57 50 (ar .neq (tm 53) (tm 56)) [],op 58 (.pick (tm 50) (.lit (.bool true)) (tm 57))] [2,3,58])
 (.cond (tm 58) (.seq (rg [op 4 (.mv (.lit (.bool false)))] [4])
 .ret)
 .skip))
 (.seq (.seq (rg [op 5 (.mv (zi 0))] [2,3,5])
 (.block 0 (.loop lp51_0)))
 (.seq (.seq (rg [op 6 (.mv (zi 0))] [2,3,6])
 (.block 2 (.loop lp51_1)))
 (.seq (rg [op 4 (.mv (.lit (.bool true)))] [4])
 .ret)))))⟩
theorem good51:Good Tryz.prog (51,af51):=mkG Z0 [(0,[2,3]),(1,[2,3,58]),(2,[4]),(3,[2,3,5]),(4,[2,3,5,63]),(6,[2,3,5,77]),(7,[4]),(5,[2,3,5]),(8,[2,3,6]),(9,[2,3,6,82]),(11,[2,3,6,129]),(12,[4]),(10,[2,3,6]),(13,[4])] Tryz.func51 (by kernel_rfl)
def lp52_0:ACode:=
 (.seq (.seq (rg [oq 10 (.addOff 6 (tm 1)) [13],ld 11 10,op 12 (.len false (tm 11)),op 13 (ar .lss (tm 4) (tm 12))] [1,3,4,13])
 (.cond (tm 13) .skip
 (.exit 0)))
 (.seq (.block 1 (rg [oq 16 (.mv (tm 3)) [24],ao 17 6 1,ld 18 17,op 20 (.indexAddrS 9 (tm 18) (tm 4)),ao 21 2 20,op 22 (.load true 7 (tm 21)),op 23 (.buildSlice 7 1 z7a [(0,(tm 22))]),op 3 (.append 7 120 (tm 16) (tm 23))] [1,3,4]))
 (rg [oq 14 (.mv (tm 4)) [15],op 4 (ar .add (tm 14) (zi 1))] [1,3,4])))
def af52:AFunc:=⟨26,1,[.tmp 2],
 (.seq (rg [oq 1 (.box (tm 0)) [2]] [1])
 (.seq (rg [oq 5 (.buildRow 7 0 [(.int .i64 0),(.int .i64 0),(.str []),(.str []),.empty,.empty,.empty] []) [8],ao 6 5 1,ld 7 6,op 3 (.append 7 120 (tm 5) (tm 7))] [1,3])
 (.seq (.seq (rg [op 4 (.mv (zi 0))] [1,3,4])
 (.block 0 (.loop lp52_0)))
 (.seq (rg [oq 2 (.mv (tm 3)) [25]] [2])
 .ret))))⟩
theorem good52:Good Tryz.prog (52,af52):=mkG (fun t=>t==5) [(0,[1]),(1,[1,3]),(2,[1,3,4]),(3,[1,3,4,13]),(5,[1,3,4]),(4,[1,3,4]),(6,[2])] Tryz.func52 (by kernel_rfl)
def af53:AFunc:=⟨2,0,[.cell 0 true 6],
 (.seq (rg [op 0 (.alloc z6)] [0])
 (.seq (rg [op 1 (.build z6 [(0,1,(zi 4))]),on (.store 6 (tm 0) (tm 1))] [0])
 .ret))⟩
theorem good53:Good Tryz.prog (53,af53):=mkG Z0 [(0,[0]),(1,[0])] Tryz.func53 (by kernel_rfl)
def lp55_0:ACode:=
 (.seq (rg [op 26 (ar .lss (tm 25) (tm 24))] [3,4,15,16,17,23,24,25,26])
 (.seq (.cond (tm 26) .skip
 (.exit 2))
 (.seq (.block 3 (.seq (rg [oq 28 (.indexAddrS 2 (tm 23) (tm 25)) [29],op 29 (.load true 2 (tm 28)),op 7 (.alloc z2a),op 6 (.mv (tm 25)),on (.store 2 (tm 7) (tm 29))] [3,4,6,7,15,16,17,23,24,25])
 (.seq (dr [oq 31 (.mv (tm 3)) [3],oq 32 (.nilCheck (tm 31)) [31],aq 33 10 32,lq 34 33,aq 35 0 7,lq 36 35,oq 37 (.lookup 2 (.agg z2) true (tm 34) (tm 36)) [34,36],oq 30 (.mv (tm 37)) [37],oq 38 (.extract (tm 30) 0) [30],oq 39 (.extract (tm 30) 1) [30],op 8 (.alloc z2),om (.store 2 (tm 8) (tm 38)) [8,38],oq 9 (.mv (tm 39)) [39]] [0,1,3,7,0,16,63,127,255,255,0,1535,4095] [3,4,6,7,9,15,16,17,23,24,25])
 (.seq (rg [oq 41 (.not (tm 9)) [41]] [3,4,6,7,15,16,17,23,24,25,41])
 (.cond (tm 41) (dr [oq 42 (.mv (tm 3)) [3],oq 43 (.nilCheck (tm 42)) [42],aq 44 10 43,lq 45 44,aq 46 0 7,lq 47 46,oq 48 (.mv (tm 4)) [4],oq 49 (.mv (tm 6)) [6],oq 50 (.build z2 [(0,1,(tm 48)),(1,1,(tm 49))]) [48,49],om (.mapUpdate 2 (tm 45) (tm 47) (tm 50)) [45,47,50]] [0,1,3,7,0,16,0,0,192,511] [3,4,15,16,17,23,24,25])
 .skip)))))
 (rg [oq 25 (ar .add (tm 25) (zi 1)) [51]] [3,4,15,16,17,23,24,25]))))
def lp55_1:ACode:=
 (.seq (rg [op 18 (ar .lss (tm 17) (tm 16))] [3,15,16,17,18])
 (.seq (.cond (tm 18) .skip
 (.exit 0))
 (.seq (.block 1 (.seq (rg [oq 20 (.indexAddrS 3 (tm 15) (tm 17)) [21],op 21 (.load true 3 (tm 20)),op 5 (.alloc z3),op 4 (.mv (tm 17)),on (.store 3 (tm 5) (tm 21))] [3,4,5,15,16,17])
 (.seq (rg [ao 22 2 5,ld 23 22,op 24 (.len false (tm 23)),op 25 (.mv (zi 0))] [3,4,15,16,17,23,24,25])
 (.block 2 (.loop lp55_0)))))
 (rg [oq 17 (ar .add (tm 17) (zi 1)) [52]] [3,15,16,17]))))
def af55:AFunc:=⟨54,1,[.tmp 2],
 (.seq (rg [oq 1 (.box (tm 0)) [2]] [1])
 (.seq (rg [oq 10 (.load true 10 (tm 1)) [13],op 11 (.mkMap),op 12 (.build [.empty,.empty,.empty,(.int .i64 0),(.int .i64 0),(.str []),(.str []),.empty,.empty,.empty,.nilmap] [(0,10,(tm 10)),(10,1,(tm 11))]),op 3 (.box (tm 12))] [1,3])
 (.seq (.seq (rg [ao 14 0 1,ld 15 14,op 16 (.len false (tm 15)),op 17 (.mv (zi 0))] [3,15,16,17])
 (.block 0 (.loop lp55_1)))
 (.seq (rg [oq 2 (.mv (tm 3)) [53]] [2])
 .ret))))⟩
theorem good55:Good Tryz.prog (55,af55):=mkG Z0 [(0,[1]),(1,[1,3]),(2,[3,15,16,17]),(3,[3,15,16,17,18]),(4,[3,4,5,15,16,17]),(5,[3,4,15,16,17,23,24,25]),(6,[3,4,15,16,17,23,24,25,26]),(7,[3,4,6,7,15,16,17,23,24,25]),(8,[3,4,6,7,9,15,16,17,23,24,25]),(9,[3,4,6,7,15,16,17,23,24,25,41]),(10,[3,4,15,16,17,23,24,25]),(11,[3,4,15,16,17,23,24,25]),(12,[3,15,16,17]),(13,[2])] Tryz.func55 (by kernel_rfl)
def lp56_0:ACode:=
 (.seq (rg [op 62 (ar .lss (tm 61) (tm 60))] [0,2,3,4,6,37,38,39,48,49,50,59,60,61,62])
 (.seq (.cond (tm 62) .skip
 (.exit 4))
 (.seq (.block 5 (.seq (rg [op 63 (.indexAddrS 6 (tm 59) (tm 61)),op 64 (.load true 6 (tm 63)),op 10 (.alloc z6),on (.store 6 (tm 10) (tm 64))] [0,2,3,4,6,10,37,38,39,48,49,50,59,60,61])
 (rg [oq 66 (.load true 6 (tm 10)) [69],ao 67 1 6,ld 68 67,op 69 (.call (.fn 112) [(tm 0),(tm 66),(tm 68)])] [0,2,3,4,6,37,38,39,48,49,50,59,60,61])))
 (rg [oq 61 (ar .add (tm 61) (zi 1)) [70]] [0,2,3,4,6,37,38,39,48,49,50,59,60,61]))))
def lp56_1:ACode:=
 (.seq (rg [op 51 (ar .lss (tm 50) (tm 49))] [0,2,3,4,6,37,38,39,48,49,50,51])
 (.seq (.cond (tm 51) .skip
 (.exit 2))
 (.seq (.block 3 (.seq (rg [op 52 (.indexAddrS 2 (tm 48) (tm 50)),op 53 (.load true 2 (tm 52)),op 8 (.alloc z2a),on (.store 2 (tm 8) (tm 53))] [0,2,3,4,6,8,37,38,39,48,49,50])
 (.seq (rg [oq 55 (.addOff 0 (tm 8)) [57],ld 56 55,op 57 (.call (.val (tm 4)) [(tm 3),(tm 56)])] [0,2,3,4,6,8,37,38,39,48,49,50])
 (.seq (rg [ao 58 1 8,ld 59 58,op 60 (.len false (tm 59)),op 61 (.mv (zi 0))] [0,2,3,4,6,37,38,39,48,49,50,59,60,61])
 (.block 4 (.loop lp56_0))))))
 (rg [oq 50 (ar .add (tm 50) (zi 1)) [71]] [0,2,3,4,6,37,38,39,48,49,50]))))
def lp56_2:ACode:=
 (.seq (rg [op 40 (ar .lss (tm 39) (tm 38))] [0,2,3,4,37,38,39,40])
 (.seq (.cond (tm 40) .skip
 (.exit 0))
 (.seq (.block 1 (.seq (rg [op 41 (.indexAddrS 3 (tm 37) (tm 39)),op 42 (.load true 3 (tm 41)),op 6 (.alloc z3),on (.store 3 (tm 6) (tm 42))] [0,2,3,4,6,37,38,39])
 (.seq (rg [oq 44 (.addOff 0 (tm 6)) [46],ld 45 44,op 46 (.call (.val (tm 4)) [(tm 2),(tm 45)])] [0,2,3,4,6,37,38,39])
 (.seq (rg [ao 47 2 6,ld 48 47,op 49 (.len false (tm 48)),op 50 (.mv (zi 0))] [0,2,3,4,6,37,38,39,48,49,50])
 (.block 2 (.loop lp56_1))))))
 (rg [oq 39 (ar .add (tm 39) (zi 1)) [72]] [0,2,3,4,37,38,39]))))
def lp56_3:ACode:=
 (.seq (rg [op 93 (ar .lss (tm 92) (tm 91))] [0,4,11,12,79,80,81,90,91,92,93])
 (.seq (.cond (tm 93) .skip
 (.exit 8))
 (.seq (.block 9 (.seq (rg [op 94 (.indexAddrS 14 (tm 90) (tm 92)),op 95 (.load true 14 (tm 94)),op 16 (.alloc z14),on (.store 14 (tm 16) (tm 95))] [0,4,11,12,16,79,80,81,90,91,92])
 (.seq (rg [oq 97 (.addOff 0 (tm 16)) [99],ld 98 97,op 99 (.call (.val (tm 4)) [(tm 12),(tm 98)])] [0,4,11,12,16,79,80,81,90,91,92])
 (.seq (rg [oq 101 (.addOff 1 (tm 16)) [103],op 102 (.load true 6 (tm 101)),op 103 (.call (.fn 112) [(tm 0),(tm 102),(.lit .empty)])] [0,4,11,12,16,79,80,81,90,91,92])
 (rg [oq 105 (.addOff 7 (tm 16)) [107],op 106 (.load true 6 (tm 105)),op 107 (.call (.fn 112) [(tm 0),(tm 106),(.lit .empty)])] [0,4,11,12,79,80,81,90,91,92])))))
 (rg [oq 92 (ar .add (tm 92) (zi 1)) [108]] [0,4,11,12,79,80,81,90,91,92]))))
def lp56_4:ACode:=
 (.seq (rg [op 82 (ar .lss (tm 81) (tm 80))] [0,4,11,12,79,80,81,82])
 (.seq (.cond (tm 82) .skip
 (.exit 6))
 (.seq (.block 7 (.seq (rg [op 83 (.indexAddrS 2 (tm 79) (tm 81)),op 84 (.load true 2 (tm 83)),op 14 (.alloc z2a),on (.store 2 (tm 14) (tm 84))] [0,4,11,12,14,79,80,81])
 (.seq (rg [oq 86 (.addOff 0 (tm 14)) [88],ld 87 86,op 88 (.call (.val (tm 4)) [(tm 11),(tm 87)])] [0,4,11,12,14,79,80,81])
 (.seq (rg [ao 89 1 14,ld 90 89,op 91 (.len false (tm 90)),op 92 (.mv (zi 0))] [0,4,11,12,79,80,81,90,91,92])
 (.block 8 (.loop lp56_3))))))
 (rg [oq 81 (ar .add (tm 81) (zi 1)) [109]] [0,4,11,12,79,80,81]))))
def af56:AFunc:=⟨110,1,[],
 (.seq (dr [oq 17 (.mv (tm 0)) [0],oq 18 (.nilCheck (tm 17)) [17],aq 19 0 18,aq 20 0 19,lq 21 20,oq 22 (.mv (tm 0)) [0],oq 23 (.nilCheck (tm 22)) [22],aq 24 0 23,aq 25 1 24,lq 26 25,op 27 (.build [(.int .i64 0),(.int .i64 0),(.str []),(.str []),(.slice []),(.slice []),(.slice [])] [(0,1,(zi 3))]),oq 28 (.build [(.slice []),(.slice []),(.slice []),(.int .i64 0),(.int .i64 0),(.str []),(.str []),(.slice []),(.slice []),(.slice [])] [(0,1,(tm 21)),(1,1,(tm 26)),(3,7,(tm 27))]) [21,26,27],oq 29 (.call (.fn 95) [(tm 28)]) [28],oq 30 (.call (.fn 59) [(tm 29)]) [29]] [0,1,3,7,15,0,32,96,224,480,0,2047,4095,8191] [0])
 (.seq (rg [op 31 (.buildRow 1 3 [(.str [])] [(0,(.lit (.str [73,110,116]))),(1,(.lit (.str [66,111,111,108]))),(2,(.lit (.str [85,110,105,116])))]),op 32 (.buildRow 1 0 [(.str [])] []),op 2 (.alloc [.empty]),op 3 (.alloc [.empty]),on (.store 1 (tm 2) (tm 31)),on (.store 1 (tm 3) (tm 32))] [0,2,3])
 (.seq (rg [op 4 (.mv (.lit (.func 110 [] [])))] [0,2,3,4])
 (.seq (.seq (rg [oq 34 (.nilCheck (tm 0)) [39],ao 35 0 34,ao 36 0 35,ld 37 36,op 38 (.len false (tm 37)),op 39 (.mv (zi 0))] [0,2,3,4,37,38,39])
 (.block 0 (.loop lp56_2)))
 (.seq (rg [op 73 (.buildRow 1 1 [(.str [])] [(0,(.lit (.str [73,79])))]),op 74 (.buildRow 1 2 [(.str [])] [(0,(.lit (.str [112,114,105,110,116]))),(1,(.lit (.str [114,101,97,100])))]),op 11 (.alloc [.empty]),op 12 (.alloc [.empty]),on (.store 1 (tm 11) (tm 73)),on (.store 1 (tm 12) (tm 74))] [0,4,11,12])
 (.seq (rg [oq 76 (.nilCheck (tm 0)) [81],ao 77 0 76,ao 78 1 77,ld 79 78,op 80 (.len false (tm 79)),op 81 (.mv (zi 0))] [0,4,11,12,79,80,81])
 (.block 6 (.loop lp56_4))))))))⟩
theorem good56:Good Tryz.prog (56,af56):=mkG (fun t=>t==27||t==28||t==31||t==32||t==73||t==74) [(0,[0]),(1,[0,2,3]),(2,[0,2,3,4]),(3,[0,2,3,4,37,38,39]),(4,[0,2,3,4,37,38,39,40]),(5,[0,2,3,4,6,37,38,39]),(6,[0,2,3,4,6,37,38,39]),(7,[0,2,3,4,6,37,38,39,48,49,50]),(8,[0,2,3,4,6,37,38,39,48,49,50,51]),(9,[0,2,3,4,6,8,37,38,39,48,49,50]),(10,[0,2,3,4,6,8,37,38,39,48,49,50]),(11,[0,2,3,4,6,37,38,39,48,49,50,59,60,61]),(12,[0,2,3,4,6,37,38,39,48,49,50,59,60,61,62]),(13,[0,2,3,4,6,10,37,38,39,48,49,50,59,60,61]),(14,[0,2,3,4,6,37,38,39,48,49,50,59,60,61]),(15,[0,2,3,4,6,37,38,39,48,49,50,59,60,61]),(16,[0,2,3,4,6,37,38,39,48,49,50]),(17,[0,2,3,4,37,38,39]),(18,[0,4,11,12]),(19,[0,4,11,12,79,80,81]),(20,[0,4,11,12,79,80,81,82]),(21,[0,4,11,12,14,79,80,81]),(22,[0,4,11,12,14,79,80,81]),(23,[0,4,11,12,79,80,81,90,91,92]),(24,[0,4,11,12,79,80,81,90,91,92,93]),(25,[0,4,11,12,16,79,80,81,90,91,92]),(26,[0,4,11,12,16,79,80,81,90,91,92]),(27,[0,4,11,12,16,79,80,81,90,91,92]),(28,[0,4,11,12,79,80,81,90,91,92]),(29,[0,4,11,12,79,80,81,90,91,92]),(30,[0,4,11,12,79,80,81])] Tryz.func56 (by kernel_rfl)
def lp57_0:ACode:=
 (.seq (rg [op 48 (ar .lss (tm 47) (tm 46))] [2,3,5,7,45,46,47,48])
 (.seq (.cond (tm 48) .skip
 (.exit 0))
 (.seq (.block 1 (.seq (rg [op 49 (.indexAddrS 6 (tm 45) (tm 47)),op 50 (.load true 6 (tm 49)),op 9 (.alloc z6),on (.store 6 (tm 9) (tm 50))] [2,3,5,7,9,45,46,47])
 (rg [op 51 (.load true 6 (tm 9)),op 52 (.call (.fn 60) [(tm 51)]),op 53 (.call (.fn 59) [(tm 52)])] [2,3,5,7,45,46,47])))
 (rg [oq 47 (ar .add (tm 47) (zi 1)) [54]] [2,3,5,7,45,46,47]))))
def lp57_1:ACode:=
 (.seq (rg [op 64 (ar .lss (tm 63) (tm 62))] [2,3,7,61,62,63,64])
 (.seq (.cond (tm 64) .skip
 (.exit 2))
 (.seq (.block 3 (.seq (rg [op 65 (.indexAddrS 6 (tm 61) (tm 63)),op 66 (.load true 6 (tm 65)),op 11 (.alloc z6),on (.store 6 (tm 11) (tm 66))] [2,3,7,11,61,62,63])
 (.seq (rg [op 67 (.build [(.int .i64 0)] [(0,1,(zi 3000))]),op 12 (.alloc [(.int .i64 0)]),on (.store 1 (tm 12) (tm 67))] [2,3,7,11,12,61,62,63])
 (dr [lq 68 3,oq 69 (.load true 6 (tm 11)) [11],aq 70 1 7,lq 71 70,lq 72 2,oq 73 (.call (.fn 61) [(tm 12),(tm 69),(tm 71),(tm 72),(zi 200)]) [12,69,71,72],oq 74 (.len false (tm 68)) [68],op 75 (.buildSlice 6 1 z6 [(0,(.lit (.agg z6)))]),oq 76 (.append 6 88 (tm 68) (tm 75)) [68,75],oq 77 (.indexAddrS 6 (tm 76) (tm 74)) [76,74],om (.store 6 (tm 77) (tm 73)) [77,73],om (.store 1 (tm 3) (tm 76)) [3,76]] [0,0,0,4,0,30,1,0,255,511,1023,511] [2,3,7,61,62,63]))))
 (rg [oq 63 (ar .add (tm 63) (zi 1)) [78]] [2,3,7,61,62,63]))))
def af57:AFunc:=⟨79,4,[],
 (.seq (rg [oq 13 (.load true 10 (tm 0)) [14],op 4 (.call (.fn 55) [(tm 13)])] [1,2,3,4])
 (.seq (rg [oq 16 (.call (.fn 56) [(tm 4)]) [16]] [1,2,3,4])
 (.seq (dr [oq 18 (.mv (tm 4)) [4],oq 19 (.nilCheck (tm 18)) [18],aq 20 10 19,lq 21 20,lq 22 1,oq 23 (.lookup 2 (.agg z2) true (tm 21) (tm 22)) [21,22],oq 17 (.mv (tm 23)) [23],oq 24 (.extract (tm 17) 0) [17],oq 25 (.extract (tm 17) 1) [17],op 5 (.alloc z2),om (.store 2 (tm 5) (tm 24)) [5,24],oq 6 (.mv (tm 25)) [25]] [0,1,3,7,0,31,63,127,127,0,767,2047] [2,3,4,5,6])
 (.seq (.seq (rg [oq 27 (.not (tm 6)) [27]] [2,3,4,5,27])
 (.cond (tm 27) (rg [op 28 (.call (.fn 58) [(zi 6)])] [2,3,4,5])
 .skip))
 (.seq (dr [oq 29 (.mv (tm 4)) [4],oq 30 (.nilCheck (tm 29)) [29],aq 31 0 30,aq 32 0 31,lq 33 32,aq 34 0 5,lq 35 34,oq 36 (.indexAddrS 3 (tm 33) (tm 35)) [33,35],oq 37 (.load true 3 (tm 36)) [36],op 7 (.alloc z3),om (.store 3 (tm 7) (tm 37)) [7,37]] [0,1,3,7,15,0,32,127,255,0,1023] [2,3,5,7])
 (.seq (.seq (rg [ao 38 1 7,ld 39 38,op 40 (.len false (tm 39)),ld 41 2,op 42 (.len false (tm 41)),op 43 (ar .neq (tm 40) (tm 42))] [2,3,5,7,43])
 (.cond (tm 43) (rg [op 44 (.call (.fn 58) [(zi 7)])] [2,3,5,7])
 .skip))
 (.seq (.seq (rg [ld 45 2,op 46 (.len false (tm 45)),op 47 (.mv (zi 0))] [2,3,5,7,45,46,47])
 (.block 0 (.loop lp57_0)))
 (.seq (rg [ao 55 2 7,ld 56 55,ao 57 1 5,ld 58 57,op 59 (.indexAddrS 2 (tm 56) (tm 58)),ao 60 1 59,ld 61 60,op 62 (.len false (tm 61)),op 63 (.mv (zi 0))] [2,3,7,61,62,63])
 (.block 2 (.loop lp57_1))))))))))⟩
theorem good57:Good Tryz.prog (57,af57):=mkG Z0 [(0,[1,2,3,4]),(1,[1,2,3,4]),(2,[2,3,4,5,6]),(3,[2,3,4,5,27]),(4,[2,3,4,5]),(5,[2,3,5,7]),(6,[2,3,5,7,43]),(7,[2,3,5,7]),(8,[2,3,5,7,45,46,47]),(9,[2,3,5,7,45,46,47,48]),(10,[2,3,5,7,9,45,46,47]),(11,[2,3,5,7,45,46,47]),(12,[2,3,5,7,45,46,47]),(13,[2,3,7,61,62,63]),(14,[2,3,7,61,62,63,64]),(15,[2,3,7,11,61,62,63]),(16,[2,3,7,11,12,61,62,63]),(17,[2,3,7,61,62,63]),(18,[2,3,7,61,62,63])] Tryz.func57 (by kernel_rfl)
def af58:AFunc:=⟨5,1,[],
 (rg [oq 3 (.build [(.int .i64 0)] [(0,1,(tm 0))]) [4],op 4 (.mkIface 154 (tm 3)),on (.panic (tm 4))] [])⟩
theorem good58:Good Tryz.prog (58,af58):=mkG Z0 [(0,[])] Tryz.func58 (by kernel_rfl)
def af59:AFunc:=⟨6,1,[],
 (.seq (rg [oq 3 (ar .neq (tm 0) (zi 0)) [3]] [0,3])
 (.cond (tm 3) (rg [oq 5 (.call (.fn 58) [(tm 0)]) [5]] [])
 .skip))⟩
theorem good59:Good Tryz.prog (59,af59):=mkG Z0 [(0,[0,3]),(1,[])] Tryz.func59 (by kernel_rfl)
def af60:AFunc:=⟨10,1,[.tmp 2],
 (.seq (rg [oq 1 (.box (tm 0)) [2]] [1])
 (.seq (rg [op 4 (.build z2 [(0,1,(zi 3000))]),op 3 (.alloc z2),on (.store 2 (tm 3) (tm 4))] [1,3])
 (.seq (.seq (rg [op 5 (.load true 6 (tm 1)),op 6 (.call (.fn 113) [(tm 3),(tm 5),(zi 1)]),op 7 (.not (tm 6))] [1,7])
 (.cond (tm 7) (.seq (rg [op 2 (.mv (zi 3))] [2])
 .ret)
 .skip))
 (.seq (rg [oq 8 (.load true 6 (tm 1)) [9],op 2 (.call (.fn 114) [(tm 8)])] [2])
 .ret))))⟩
theorem good60:Good Tryz.prog (60,af60):=mkG Z0 [(0,[1]),(1,[1,3]),(2,[1,7]),(3,[2]),(4,[2])] Tryz.func60 (by kernel_rfl)
def lp61_0:ACode:=
 (.seq (rg [op 59 (ar .lss (tm 58) (tm 57))] [0,2,3,4,6,10,12,56,57,58,59])
 (.seq (.cond (tm 59) .skip
 (.exit 0))
 (.seq (.block 1 (.seq (rg [oq 61 (.indexAddrS 6 (tm 56) (tm 58)) [62],op 62 (.load true 6 (tm 61)),op 14 (.alloc z6),op 13 (.mv (tm 58)),on (.store 6 (tm 14) (tm 62))] [0,2,3,4,6,10,12,13,14,56,57,58])
 (rg [oq 66 (.load true 6 (tm 14)) [72],op 70 (ar .sub (tm 4) (zi 1)),op 71 (.call (.fn 61) [(tm 0),(tm 66),(tm 2),(tm 3),(tm 70)]),op 72 (.indexAddrS 6 (tm 12) (tm 13)),on (.store 6 (tm 72) (tm 71))] [0,2,3,4,6,10,12,56,57,58])))
 (rg [oq 58 (ar .add (tm 58) (zi 1)) [73]] [0,2,3,4,6,10,12,56,57,58]))))
def af61:AFunc:=⟨90,5,[.cell 10 true 6],
 (.seq (rg [op 6 (.box (tm 1)),op 10 (.alloc z6)] [0,2,3,4,6,10])
 (.seq (.seq (rg [oq 17 (.addOff 2 (tm 6)) [19],ld 18 17,op 11 (.call (.fn 89) [(tm 2),(tm 18)])] [0,2,3,4,6,10,11])
 (.seq (rg [oq 20 (.addOff 0 (tm 6)) [26],ld 21 20,op 23 (ar .eql (tm 21) (zi 1)),gt 24 23 (.mv (tm 11)) [],gt 25 23 (ar .geq (tm 24) (zi 0)) [],op 26 (.pick (tm 23) (tm 25) (.lit (.bool false)))] [0,2,3,4,6,10,11,26])
 (.cond (tm 26) (.seq (rg [oq 30 (.indexAddrS 6 (tm 3) (tm 11)) [33],op 31 (.load true 6 (tm 30)),op 33 (.call (.fn 61) [(tm 0),(tm 31),(.lit .empty),(.lit .empty),(tm 4)]),on (.store 6 (tm 10) (tm 33))] [10])
 .ret)
 .skip)))
 (.seq (rg [oq 35 (.nilCheck (tm 0)) [40],ao 36 0 35,ld 37 36,op 38 (ar .sub (tm 37) (zi 1)),op 39 (.nilCheck (tm 0)),ao 40 0 39,on (.store 1 (tm 40) (tm 38))] [0,2,3,4,6,10])
 (.seq (.seq (rg [oq 42 (.nilCheck (tm 0)) [49],ao 43 0 42,ld 44 43,op 46 (ar .lss (tm 44) (zi 0)),gf 47 46 (.mv (tm 4)) [],gf 48 46 (ar .lss (tm 47) (zi 1)) [],op 49 (.pick (tm 46) (.lit (.bool true)) (tm 48))] [0,2,3,4,6,10,49])
 (.cond (tm 49) (rg [op 50 (.call (.fn 58) [(zi 3)])] [0,2,3,4,6,10])
 .skip))
 (.seq (rg [oq 51 (.addOff 3 (tm 6)) [54],ld 52 51,op 53 (.len false (tm 52)),op 12 (.mkSlice 6 88 (.agg z6) (tm 53) (tm 53))] [0,2,3,4,6,10,12])
 (.seq (.seq (rg [ao 55 3 6,ld 56 55,op 57 (.len false (tm 56)),op 58 (.mv (zi 0))] [0,2,3,4,6,10,12,56,57,58])
 (.block 0 (.loop lp61_0)))
 (.seq (rg [oq 75 (.addOff 3 (tm 6)) [75],on (.store 1 (tm 75) (tm 12))] [6,10])
 (.seq (rg [oq 76 (.addOff 4 (tm 6)) [80],ao 77 0 76,ld 78 77,op 79 (.len false (tm 78)),op 15 (.mkSlice 2 24 (.agg [(.str []),(.int .i64 0)]) (tm 79) (tm 79))] [6,10,15])
 (.seq (rg [oq 82 (.addOff 4 (tm 6)) [85],ao 83 0 82,ld 84 83,op 85 (.copyAll 2 (tm 15) (tm 84))] [6,10,15])
 (.seq (rg [oq 87 (.addOff 4 (tm 6)) [88],ao 88 0 87,on (.store 1 (tm 88) (tm 15))] [6,10])
 (.seq (rg [op 89 (.load true 6 (tm 6)),on (.store 6 (tm 10) (tm 89))] [10])
 .ret)))))))))))⟩
theorem good61:Good Tryz.prog (61,af61):=mkG Z0 [(0,[0,2,3,4,6,10]),(1,[0,2,3,4,6,10,11]),(2,[0,2,3,4,6,10,11,26]),(3,[10]),(4,[0,2,3,4,6,10]),(5,[0,2,3,4,6,10,49]),(6,[0,2,3,4,6,10]),(7,[0,2,3,4,6,10,12]),(8,[0,2,3,4,6,10,12,56,57,58]),(9,[0,2,3,4,6,10,12,56,57,58,59]),(10,[0,2,3,4,6,10,12,13,14,56,57,58]),(11,[0,2,3,4,6,10,12,56,57,58]),(12,[0,2,3,4,6,10,12,56,57,58]),(13,[6,10]),(14,[6,10,15]),(15,[6,10,15]),(16,[6,10]),(17,[10])] Tryz.func61 (by kernel_rfl)
def af62:AFunc:=⟨9,2,[.cell 4 true 9],
 (.seq (rg [op 4 (.alloc z9a)] [0,1,4])
 (.seq (rg [oq 7 (.call (.fn 50) [(zi 0)]) [8],op 8 (.build z9a [(0,1,(tm 0)),(1,1,(tm 1)),(2,7,(tm 7))]),on (.store 9 (tm 4) (tm 8))] [4])
 .ret))⟩
theorem good62:Good Tryz.prog (62,af62):=mkG Z0 [(0,[0,1,4]),(1,[4])] Tryz.func62 (by kernel_rfl)
def lp63_0:ACode:=
 (.seq (.seq (rg [oq 43 (.addOff 3 (tm 2)) [46],ld 44 43,op 45 (.len false (tm 44)),op 46 (ar .lss (tm 5) (tm 45))] [2,3,5,46])
 (.cond (tm 46) .skip
 (.exit 0)))
 (.seq (.block 1 (.seq (dr [aq 49 3 2,lq 50 49,oq 51 (.mv (tm 5)) [5],oq 52 (.indexAddrS 6 (tm 50) (tm 51)) [50,51],oq 53 (.load true 6 (tm 52)) [52],aq 54 3 3,lq 55 54,oq 56 (.mv (tm 5)) [5],oq 57 (.indexAddrS 6 (tm 55) (tm 56)) [55,56],oq 58 (.load true 6 (tm 57)) [57],oq 59 (.call (.fn 63) [(tm 53),(tm 58)]) [53,58],oq 60 (.not (tm 59)) [59]] [0,1,0,7,15,0,32,0,224,480,1023,2047] [2,3,5,60])
 (.cond (tm 60) (.seq (rg [op 4 (.mv (.lit (.bool false)))] [4])
 .ret)
 .skip)))
 (rg [oq 47 (.mv (tm 5)) [48],op 5 (ar .add (tm 47) (zi 1))] [2,3,5])))
def af63:AFunc:=⟨61,2,[.tmp 4],
 (.seq (rg [oq 2 (.box (tm 0)) [4],op 3 (.box (tm 1))] [2,3])
 (.seq (.seq (rg [oq 6 (.addOff 0 (tm 2)) [41],ld 7 6,ao 8 0 3,ld 9 8,op 11 (ar .neq (tm 7) (tm 9)),gf 12 11 (.addOff 1 (tm 2)) [],gf 13 11 (l1 (tm 12)) [],gf 14 11 (.addOff 1 (tm 3)) [],gf 15 11 (l1 (tm 14)) [],gf 16 11 (ar .neq (tm 13) (tm 15)) [],op 18 (.pick (tm 11) (.lit (.bool true)) (tm 16)),gf 19 18 (.addOff 2 (tm 2)) [],gf 20 18 (l1 (tm 19)) [],gf 21 18 (.addOff 2 (tm 3)) [],gf 22 18 (l1 (tm 21)) [],gf 23 18 (ar .neq (tm 20) (tm 22)) [],op 25 (.pick (tm 18) (.lit (.bool true)) (tm 23)),gf 26 25 (.addOff 4 (tm 2)) [],gf 27 25 (.load true 2 (tm 26)) [],gf 28 25 (.addOff 4 (tm 3)) [],gf 29 25 (.load true 2 (tm 28)) [],gf 30 25 (.call (.fn 115) [(tm 27),(tm 29)]) [],gf 31 25 (.not (tm 30)) [],op 33 (.pick (tm 25) (.lit (.bool true)) (tm 31)),gf 34 33 (.addOff 3 (tm 2)) [],gf 35 33 (l1 (tm 34)) [],gf 36 33 (.len false (tm 35)) [],gf 37 33 (.addOff 3 (tm 3)) [],gf 38 33 (l1 (tm 37)) [],gf 39 33 (.len false (tm 38)) [],gf 40 33 (ar .neq (tm 36) (tm 39)) [],op 41 (.pick (tm 33) (.lit (.bool true)) (tm 40))] [2,3,41])
 (.cond (tm 41) (.seq (rg [op 4 (.mv (.lit (.bool false)))] [4])
 .ret)
 .skip))
 (.seq (.seq (rg [op 5 (.mv (zi 0))] [2,3,5])
 (.block 0 (.loop lp63_0)))
 (.seq (rg [op 4 (.mv (.lit (.bool true)))] [4])
 .ret))))⟩
theorem good63:Good Tryz.prog (63,af63):=mkG Z0 [(0,[2,3]),(1,[2,3,41]),(2,[4]),(3,[2,3,5]),(4,[2,3,5,46]),(6,[2,3,5,60]),(7,[4]),(5,[2,3,5]),(8,[4])] Tryz.func63 (by kernel_rfl)
def af64:AFunc:=⟨14,3,[],
 (.seq (rg [oq 4 (.load true 10 (tm 0)) [5],op 3 (.call (.fn 55) [(tm 4)])] [1,2,3])
 (.seq (rg [oq 7 (.load true 6 (tm 1)) [8],op 8 (.call (.fn 65) [(tm 3),(tm 7)])] [1,2,3])
 (dr [oq 9 (.mv (tm 3)) [3],oq 10 (.mv (tm 3)) [3],oq 11 (.call (.fn 67) [(tm 10)]) [10],oq 12 (.load true 6 (tm 1)) [1],oq 13 (.call (.fn 66) [(tm 9),(tm 11),(tm 12),(.lit .empty),(zi 0)]) [9,11,12],om (.store 1 (tm 2) (tm 13)) [2,13]] [0,0,2,0,15,31] [])))⟩
theorem good64:Good Tryz.prog (64,af64):=mkG Z0 [(0,[1,2,3]),(1,[1,2,3]),(2,[])] Tryz.func64 (by kernel_rfl)
def af65:AFunc:=⟨16,2,[],
 (.seq (rg [op 3 (.box (tm 1))] [0,3])
 (.seq (rg [oq 5 (.call (.fn 56) [(tm 0)]) [5]] [0,3])
 (.seq (rg [op 6 (.load true 6 (tm 3)),op 7 (.call (.fn 60) [(tm 6)]),op 8 (.call (.fn 59) [(tm 7)])] [0,3])
 (.seq (.seq (rg [op 9 (.load true 6 (tm 3)),op 10 (.call (.fn 116) [(tm 9)]),op 11 (.not (tm 10))] [0,3,11])
 (.cond (tm 11) (rg [op 12 (.call (.fn 58) [(zi 1)])] [0,3])
 .skip))
 (rg [oq 14 (.load true 6 (tm 3)) [15],op 15 (.call (.fn 112) [(tm 0),(tm 14),(.lit .empty)])] [])))))⟩
theorem good65:Good Tryz.prog (65,af65):=mkG Z0 [(0,[0,3]),(1,[0,3]),(2,[0,3]),(3,[0,3,11]),(4,[0,3]),(5,[])] Tryz.func65 (by kernel_rfl)
def lp66_0:ACode:=
 (.seq (rg [op 32 (ar .lss (tm 31) (tm 30))] [0,1,3,4,7,11,29,30,31,32])
 (.seq (.cond (tm 32) .skip
 (.exit 1))
 (.seq (.block 2 (.seq (rg [oq 34 (.indexAddrS 6 (tm 29) (tm 31)) [35],op 35 (.load true 6 (tm 34)),op 13 (.alloc z6),op 12 (.mv (tm 31)),on (.store 6 (tm 13) (tm 35))] [0,1,3,4,7,11,12,13,29,30,31])
 (.seq (rg [oq 38 (.load true 6 (tm 13)) [41],op 41 (.call (.fn 66) [(tm 0),(tm 1),(tm 38),(tm 3),(tm 4)])] [0,1,3,4,7,11,12,29,30,31,41])
 (.cond (tm 41) (rg [oq 42 (.mv (tm 11)) [45],op 44 (ar .shl (zi 1) (tm 12)),op 11 (ar .or (tm 42) (tm 44))] [0,1,3,4,7,11,29,30,31])
 .skip))))
 (rg [oq 31 (ar .add (tm 31) (zi 1)) [46]] [0,1,3,4,7,11,29,30,31]))))
def af66:AFunc:=⟨58,5,[.tmp 10],
 (.seq (rg [oq 7 (.box (tm 2)) [10]] [0,1,3,4,7])
 (.seq (.seq (rg [ao 14 0 7,ld 15 14] [0,1,3,4,7,15])
 (.block 0 (.seq (rg [oq 16 (ar .eql (tm 15) (zi 1)) [17]] [0,1,3,4,7,15,16])
 (.cond (tm 16) (.seq (rg [oq 20 (.addOff 2 (tm 7)) [25],ld 21 20,op 22 (.call (.fn 89) [(tm 3),(tm 21)]),op 23 (ar .shr (tm 4) (tm 22)),op 24 (ar .and (tm 23) (zi 1)),op 10 (ar .eql (tm 24) (zi 1))] [10])
 .ret)
 (.seq (rg [oq 26 (ar .eql (tm 15) (zi 6)) [27]] [0,1,3,4,7,26])
 (.cond (tm 26) (.seq (rg [op 11 (.mv (zi 0))] [0,1,3,4,7,11])
 (.seq (.seq (rg [ao 28 3 7,ld 29 28,op 30 (.len false (tm 29)),op 31 (.mv (zi 0))] [0,1,3,4,7,11,29,30,31])
 (.block 1 (.loop lp66_0)))
 (.seq (dr [oq 47 (.mv (tm 1)) [1],oq 48 (.mv (tm 0)) [0],aq 49 2 7,lq 50 49,oq 51 (.call (.fn 117) [(tm 48),(tm 50)]) [48,50],oq 52 (.mv (tm 11)) [11],oq 53 (.nilCheck (tm 47)) [47],oq 54 (.indexAddrA 12 16 (tm 53) (tm 51)) [53,51],oq 55 (.indexAddrA 16 1 (tm 54) (tm 52)) [54,52],lq 56 55,oq 57 (ar .eql (tm 56) (zi 1)) [56],oq 10 (.mv (tm 57)) [57]] [0,0,0,4,14,0,1,95,255,511,1023,2047] [10])
 .ret)))
 .skip))))))
 (.seq (rg [op 10 (.mv (.lit (.bool true)))] [10])
 .ret)))⟩
theorem good66:Good Tryz.prog (66,af66):=mkG Z0 [(0,[0,1,3,4,7]),(1,[0,1,3,4,7,15]),(2,[0,1,3,4,7,15,16]),(4,[0,1,3,4,7,26]),(5,[0,1,3,4,7,11]),(6,[0,1,3,4,7,11,29,30,31]),(7,[0,1,3,4,7,11,29,30,31,32]),(8,[0,1,3,4,7,11,12,13,29,30,31]),(9,[0,1,3,4,7,11,12,29,30,31,41]),(10,[0,1,3,4,7,11,29,30,31]),(11,[0,1,3,4,7,11,29,30,31]),(12,[10]),(3,[10]),(13,[10])] Tryz.func66 (by kernel_rfl)
def lp67_0:ACode:=
 (.seq (rg [op 49 (ar .lss (tm 48) (tm 47))] [0,3,4,6,7,8,24,25,26,34,35,39,40,41,46,47,48,49])
 (.seq (.cond (tm 49) .skip
 (.exit 8))
 (.seq (.block 9 (.seq (rg [op 50 (.indexAddrS 6 (tm 46) (tm 48)),op 51 (.load true 6 (tm 50)),op 12 (.alloc z6),on (.store 6 (tm 12) (tm 51))] [0,3,4,6,7,8,12,24,25,26,34,35,39,40,41,46,47,48])
 (.seq (rg [oq 53 (.load true 6 (tm 12)) [58],ao 54 1 7,ld 55 54,op 57 (.call (.fn 66) [(tm 0),(tm 3),(tm 53),(tm 55),(tm 8)]),op 58 (.not (tm 57))] [0,3,4,6,7,8,24,25,26,34,35,39,40,41,46,47,48,58])
 (.cond (tm 58) (.exit 7)
 .skip))))
 (rg [oq 48 (ar .add (tm 48) (zi 1)) [59]] [0,3,4,6,7,8,24,25,26,34,35,39,40,41,46,47,48]))))
def lp67_1:ACode:=
 (.seq (rg [op 42 (ar .lss (tm 41) (tm 40))] [0,3,4,6,7,8,24,25,26,34,35,39,40,41,42])
 (.seq (.cond (tm 42) .skip
 (.exit 6))
 (.seq (.block 7 (.seq (rg [op 43 (.indexAddrS 2 (tm 39) (tm 41)),op 44 (.load true 2 (tm 43)),op 10 (.alloc z2a),on (.store 2 (tm 10) (tm 44))] [0,3,4,6,7,8,10,24,25,26,34,35,39,40,41])
 (.seq (.seq (rg [ao 45 1 10,ld 46 45,op 47 (.len false (tm 46)),op 48 (.mv (zi 0))] [0,3,4,6,7,8,24,25,26,34,35,39,40,41,46,47,48])
 (.block 8 (.loop lp67_0)))
 (rg [oq 62 (.indexAddrA 12 16 (tm 3) (tm 6)) [63],op 63 (.indexAddrA 16 1 (tm 62) (tm 8)),on (.store 1 (tm 63) (zi 1))] [0,3,4,6,7,8,24,25,26,34,35,39,40,41]))))
 (rg [oq 41 (ar .add (tm 41) (zi 1)) [64]] [0,3,4,6,7,8,24,25,26,34,35,39,40,41]))))
def lp67_2:ACode:=
 (.seq (rg [op 36 (ar .lss (tm 35) (tm 34))] [0,3,4,6,7,24,25,26,34,35,36])
 (.seq (.cond (tm 36) .skip
 (.exit 4))
 (.seq (.block 5 (.seq (rg [oq 8 (.mv (tm 35)) [37]] [0,3,4,6,7,8,24,25,26,34,35])
 (.scope (.seq (.label 0)
 (.seq (rg [ao 38 2 7,ld 39 38,op 40 (.len false (tm 39)),op 41 (.mv (zi 0))] [0,3,4,6,7,8,24,25,26,34,35,39,40,41])
 (.block 6 (.loop lp67_1)))) none)))
 (rg [oq 35 (ar .add (tm 35) (zi 1)) [65]] [0,3,4,6,7,24,25,26,34,35]))))
def lp67_3:ACode:=
 (.seq (rg [op 27 (ar .lss (tm 26) (tm 25))] [0,3,4,24,25,26,27])
 (.seq (.cond (tm 27) .skip
 (.exit 2))
 (.seq (.block 3 (.seq (rg [oq 29 (.indexAddrS 3 (tm 24) (tm 26)) [30],op 30 (.load true 3 (tm 29)),op 7 (.alloc z3),op 6 (.mv (tm 26)),on (.store 3 (tm 7) (tm 30))] [0,3,4,6,7,24,25,26])
 (.seq (rg [ao 31 1 7,ld 32 31,op 33 (.len false (tm 32)),op 34 (ar .shl (zi 1) (tm 33)),op 35 (.mv (zi 0))] [0,3,4,6,7,24,25,26,34,35])
 (.block 4 (.loop lp67_2)))))
 (rg [oq 26 (ar .add (tm 26) (zi 1)) [66]] [0,3,4,24,25,26]))))
def lp67_4:ACode:=
 (.seq (.seq (rg [oq 14 (.mv (tm 5)) [18],gf 15 14 (.load true 192 (tm 3)) [],gf 16 14 (.load true 192 (tm 4)) [],gf 17 14 (.arith .neq (.arr 12 16 (.arr 16 1 (.sc 1))) (tm 15) (tm 16)) [],op 18 (.pick (tm 14) (.lit (.bool true)) (tm 17))] [0,3,4,18])
 (.cond (tm 18) .skip
 (.exit 0)))
 (.seq (.block 1 (.seq (rg [op 19 (.load true 192 (tm 3)),on (.store 192 (tm 4) (tm 19))] [0,3,4])
 (.seq (rg [oq 21 (.nilCheck (tm 0)) [26],ao 22 0 21,ao 23 0 22,ld 24 23,op 25 (.len false (tm 24)),op 26 (.mv (zi 0))] [0,3,4,24,25,26])
 (.block 2 (.loop lp67_3)))))
 (rg [op 5 (.mv (.lit (.bool false)))] [0,3,4,5])))
def af67:AFunc:=⟨67,1,[.tmp 2],
 (.seq (rg [op 2 (.mv (tm 2))] [0])
 (.seq (rg [op 3 (.alloc z192),op 4 (.alloc z192)] [0,3,4])
 (.seq (.seq (rg [op 5 (.mv (.lit (.bool true)))] [0,3,4,5])
 (.block 0 (.loop lp67_4)))
 (.seq (rg [op 2 (.mv (tm 3))] [2])
 .ret))))⟩
theorem good67:Good Tryz.prog (67,af67):=mkG Z0 [(0,[0]),(1,[0,3,4]),(2,[0,3,4,5]),(3,[0,3,4,18]),(5,[0,3,4]),(6,[0,3,4,24,25,26]),(7,[0,3,4,24,25,26,27]),(8,[0,3,4,6,7,24,25,26]),(9,[0,3,4,6,7,24,25,26,34,35]),(10,[0,3,4,6,7,24,25,26,34,35,36]),(11,[0,3,4,6,7,8,24,25,26,34,35]),(12,[0,3,4,6,7,8,24,25,26,34,35,39,40,41]),(13,[0,3,4,6,7,8,24,25,26,34,35,39,40,41,42]),(14,[0,3,4,6,7,8,10,24,25,26,34,35,39,40,41]),(15,[0,3,4,6,7,8,24,25,26,34,35,39,40,41,46,47,48]),(16,[0,3,4,6,7,8,24,25,26,34,35,39,40,41,46,47,48,49]),(17,[0,3,4,6,7,8,12,24,25,26,34,35,39,40,41,46,47,48]),(18,[0,3,4,6,7,8,24,25,26,34,35,39,40,41,46,47,48,58]),(19,[0,3,4,6,7,8,24,25,26,34,35,39,40,41,46,47,48]),(20,[0,3,4,6,7,8,24,25,26,34,35,39,40,41]),(21,[0,3,4,6,7,8,24,25,26,34,35,39,40,41]),(22,[0,3,4,6,7,24,25,26,34,35]),(23,[0,3,4,24,25,26]),(4,[0,3,4,5]),(24,[2])] Tryz.func67 (by kernel_rfl)
def af68:AFunc:=⟨11,4,[],
 (dr [oq 4 (.load true 10 (tm 0)) [0],oq 5 (.load true 6 (tm 1)) [1],lq 6 2,oq 7 (.call (.fn 69) [(tm 4),(tm 5),(tm 6)]) [4,5,6],oq 8 (.load true 6 (tm 1)) [1],lq 9 2,oq 10 (.call (.fn 70) [(tm 7),(tm 8),(tm 9)]) [7,8,9],om (.store 1 (tm 3) (tm 10)) [3,10]] [0,0,0,7,0,0,63,127] [])⟩
theorem good68:Good Tryz.prog (68,af68):=mkG Z0 [(0,[])] Tryz.func68 (by kernel_rfl)
def af69:AFunc:=⟨27,3,[.tmp 6],
 (.seq (rg [oq 3 (.box (tm 0)) [6],op 4 (.box (tm 1))] [2,3,4])
 (.seq (rg [oq 8 (.load true 10 (tm 3)) [9],op 7 (.call (.fn 55) [(tm 8)])] [2,4,7])
 (.seq (rg [oq 11 (.load true 6 (tm 4)) [12],op 12 (.call (.fn 65) [(tm 7),(tm 11)])] [2,4,7])
 (.seq (.seq (rg [oq 15 (ar .lss (tm 2) (zi 0)) [18],gf 16 15 (.mv (tm 2)) [],gf 17 15 (ar .gtr (tm 16) (zi 7)) [],op 18 (.pick (tm 15) (.lit (.bool true)) (tm 17))] [4,7,18])
 (.cond (tm 18) (rg [op 19 (.call (.fn 58) [(zi 1)])] [4,7])
 .skip))
 (.seq (.seq (rg [oq 21 (.load true 6 (tm 4)) [24],op 22 (.build [(.int .i64 0),(.int .i64 0),(.int .i64 0),(.int .i64 0),(.int .i64 0),(.int .i64 0),(.int .i64 0),(.int .i64 0),(.int .i64 0),(.int .i64 0),(.int .i64 0),(.int .i64 0)] []),op 23 (.box (tm 22)),op 24 (.call (.fn 118) [(tm 7),(tm 21),(tm 23)])] [7,24])
 (.cond (tm 24) (rg [op 25 (.call (.fn 58) [(zi 8)])] [7])
 .skip))
 (.seq (rg [oq 6 (.mv (tm 7)) [26]] [6])
 .ret))))))⟩
theorem good69:Good Tryz.prog (69,af69):=mkG Z0 [(0,[2,3,4]),(1,[2,4,7]),(2,[2,4,7]),(3,[4,7,18]),(4,[4,7]),(5,[7,24]),(6,[7]),(7,[6])] Tryz.func69 (by kernel_rfl)
def lp70_0:ACode:=
 (.seq (rg [op 12 (ar .lss (tm 11) (tm 10))] [0,4,7,10,11,12])
 (.seq (.cond (tm 12) .skip
 (.exit 0))
 (.seq (.block 1 (.seq (rg [oq 8 (.mv (tm 11)) [13]] [0,4,7,8,10,11])
 (rg [oq 14 (.mv (tm 7)) [20],op 16 (.load true 6 (tm 4)),op 17 (.build [(.int .i64 0),(.int .i64 0),(.str []),.empty,.empty,(.int .i64 0),.nilptr] [(0,6,(tm 16))]),op 19 (.call (.fn 119) [(tm 0),(tm 17),(tm 8)]),op 7 (ar .add (tm 14) (tm 19))] [0,4,7,10,11])))
 (rg [oq 11 (ar .add (tm 11) (zi 1)) [21]] [0,4,7,10,11]))))
def af70:AFunc:=⟨23,3,[.tmp 6],
 (.seq (rg [oq 4 (.box (tm 1)) [6]] [0,2,4])
 (.seq (rg [op 7 (.mv (zi 0))] [0,2,4,7])
 (.seq (.seq (rg [oq 10 (ar .add (tm 2) (zi 1)) [11],op 11 (.mv (zi 0))] [0,4,7,10,11])
 (.block 0 (.loop lp70_0)))
 (.seq (rg [oq 6 (.mv (tm 7)) [22]] [6])
 .ret))))⟩
theorem good70:Good Tryz.prog (70,af70):=mkG Z0 [(0,[0,2,4]),(1,[0,2,4,7]),(2,[0,4,7,10,11]),(3,[0,4,7,10,11,12]),(4,[0,4,7,8,10,11]),(5,[0,4,7,10,11]),(6,[0,4,7,10,11]),(7,[6])] Tryz.func70 (by kernel_rfl)
def af71:AFunc:=⟨8,1,[.tmp 2],
 (.seq (rg [oq 1 (.box (tm 0)) [2]] [1])
 (.seq (.seq (rg [op 3 (.load true 6 (tm 1)),op 4 (.call (.fn 120) [(tm 3),(zi 3000),(zi 200)]),op 5 (ar .lss (tm 4) (zi 0))] [1,5])
 (.cond (tm 5) (.seq (rg [op 2 (.mv (zi 3))] [2])
 .ret)
 .skip))
 (.seq (rg [oq 6 (.load true 6 (tm 1)) [7],op 2 (.call (.fn 121) [(tm 6)])] [2])
 .ret)))⟩
theorem good71:Good Tryz.prog (71,af71):=mkG Z0 [(0,[1]),(1,[1,5]),(2,[2]),(3,[2])] Tryz.func71 (by kernel_rfl)
def lp72_0:ACode:=
 (.seq (.seq (rg [oq 21 (.addOff 4 (tm 1)) [25],ao 22 0 21,ld 23 22,op 24 (.len false (tm 23)),op 25 (ar .lss (tm 4) (tm 24))] [1,3,4,25])
 (.cond (tm 25) .skip
 (.exit 0)))
 (.seq (.block 1 (rg [oq 29 (.mv (tm 3)) [38],gt 30 29 (.addOff 4 (tm 1)) [],gt 31 29 (.addOff 0 (tm 30)) [],gt 32 29 (l1 (tm 31)) [],gt 33 29 (.mv (tm 4)) [],gt 34 29 (.indexAddrS 2 (tm 32) (tm 33)) [],gt 35 29 (.addOff 1 (tm 34)) [],gt 36 29 (l1 (tm 35)) [],gt 37 29 (ar .eql (tm 36) (zi 0)) [],op 3 (.pick (tm 29) (tm 37) (.lit (.bool false)))] [1,3,4]))
 (rg [oq 26 (.mv (tm 4)) [27],op 4 (ar .add (tm 26) (zi 1))] [1,3,4])))
def lp72_1:ACode:=
 (.seq (.seq (rg [oq 40 (.addOff 3 (tm 1)) [46],ld 41 40,op 42 (.len false (tm 41)),op 44 (ar .lss (tm 5) (tm 42)),gt 45 44 (.mv (tm 3)) [],op 46 (.pick (tm 44) (tm 45) (.lit (.bool false)))] [1,3,5,46])
 (.cond (tm 46) .skip
 (.exit 2)))
 (.seq (.block 3 (rg [oq 49 (.addOff 3 (tm 1)) [54],ld 50 49,op 52 (.indexAddrS 6 (tm 50) (tm 5)),op 53 (.load true 6 (tm 52)),op 3 (.call (.fn 72) [(tm 53)])] [1,3,5]))
 (rg [oq 47 (.mv (tm 5)) [48],op 5 (ar .add (tm 47) (zi 1))] [1,3,5])))
def af72:AFunc:=⟨56,1,[.tmp 2],
 (.seq (rg [oq 1 (.box (tm 0)) [2]] [1])
 (.seq (rg [oq 6 (.addOff 0 (tm 1)) [19],ld 7 6,op 9 (ar .neq (tm 7) (zi 0)),gt 10 9 (.addOff 0 (tm 1)) [],gt 11 9 (l1 (tm 10)) [],gt 12 9 (ar .neq (tm 11) (zi 5)) [],gt 13 9 (.mv (tm 12)) [],gf 14 13 (.addOff 4 (tm 1)) [],gf 15 13 (.addOff 1 (tm 14)) [],gf 16 13 (l1 (tm 15)) [],gf 17 13 (ar .eql (tm 16) (zi (-1))) [],gt 18 9 (.pick (tm 13) (.lit (.bool true)) (tm 17)) [],op 3 (.pick (tm 9) (tm 18) (.lit (.bool false)))] [1,3])
 (.seq (.seq (rg [op 4 (.mv (zi 0))] [1,3,4])
 (.block 0 (.loop lp72_0)))
 (.seq (.seq (rg [op 5 (.mv (zi 0))] [1,3,5])
 (.block 2 (.loop lp72_1)))
 (.seq (rg [oq 2 (.mv (tm 3)) [55]] [2])
 .ret)))))⟩
theorem good72:Good Tryz.prog (72,af72):=mkG Z0 [(0,[1]),(1,[1,3]),(2,[1,3,4]),(3,[1,3,4,25]),(5,[1,3,4]),(4,[1,3,4]),(6,[1,3,5]),(7,[1,3,5,46]),(9,[1,3,5]),(8,[1,3,5]),(10,[2])] Tryz.func72 (by kernel_rfl)
def lp73_0:ACode:=
 (.seq (.seq (rg [oq 44 (.addOff 4 (tm 5)) [48],ao 45 0 44,ld 46 45,op 47 (.len false (tm 46)),op 48 (ar .lss (tm 8) (tm 47))] [1,3,5,8,48])
 (.cond (tm 48) .skip
 (.exit 0)))
 (.seq (.block 1 (.seq (dr [oq 52 (.load true 10 (tm 3)) [3],aq 53 4 5,aq 54 0 53,lq 55 54,oq 56 (.mv (tm 8)) [8],oq 57 (.indexAddrS 2 (tm 55) (tm 56)) [55,56],aq 58 0 57,lq 59 58,oq 60 (.call (.fn 35) [(tm 52),(tm 59)]) [52,59],oq 51 (.mv (tm 60)) [60],oq 61 (.extract (tm 51) 0) [51],oq 62 (.extract (tm 51) 1) [51],oq 9 (.mv (tm 61)) [61],oq 10 (.mv (tm 62)) [62]] [0,0,2,6,0,30,62,126,255,511,1023,1023,2047,8191] [1,3,5,8,10])
 (.seq (rg [oq 64 (ar .neq (tm 10) (zi 0)) [64]] [1,3,5,8,10,64])
 (.cond (tm 64) (.seq (rg [oq 6 (.mv (tm 10)) [65]] [6])
 .ret)
 .skip))))
 (rg [oq 49 (.mv (tm 8)) [50],op 8 (ar .add (tm 49) (zi 1))] [1,3,5,8])))
def lp73_1:ACode:=
 (.seq (.seq (rg [oq 67 (.addOff 3 (tm 5)) [70],ld 68 67,op 69 (.len false (tm 68)),op 70 (ar .lss (tm 11) (tm 69))] [1,3,5,11,70])
 (.cond (tm 70) .skip
 (.exit 2)))
 (.seq (.block 3 (.seq (dr [oq 73 (.load true 10 (tm 3)) [3],oq 74 (.mv (tm 1)) [1],aq 75 3 5,lq 76 75,oq 77 (.mv (tm 11)) [11],oq 78 (.indexAddrS 6 (tm 76) (tm 77)) [76,77],oq 79 (.load true 6 (tm 78)) [78],oq 80 (.call (.fn 73) [(tm 73),(tm 74),(tm 79)]) [73,74,79],oq 12 (.mv (tm 80)) [80]] [0,0,0,4,0,28,60,127,255] [1,3,5,11,12])
 (.seq (rg [oq 82 (ar .neq (tm 12) (zi 0)) [82]] [1,3,5,11,12,82])
 (.cond (tm 82) (.seq (rg [oq 6 (.mv (tm 12)) [83]] [6])
 .ret)
 .skip))))
 (rg [oq 71 (.mv (tm 11)) [72],op 11 (ar .add (tm 71) (zi 1))] [1,3,5,11])))
def af73:AFunc:=⟨84,3,[.tmp 6],
 (.seq (rg [oq 3 (.box (tm 0)) [6],op 5 (.box (tm 2))] [1,3,5])
 (.seq (.seq (rg [oq 13 (.addOff 0 (tm 5)) [22],ld 14 13,op 16 (ar .eql (tm 14) (zi 1)),gt 17 16 (.mv (tm 1)) [],gt 18 16 (.addOff 2 (tm 5)) [],gt 19 16 (l1 (tm 18)) [],gt 20 16 (.call (.fn 122) [(tm 17),(tm 19)]) [],gt 21 16 (.not (tm 20)) [],op 22 (.pick (tm 16) (tm 21) (.lit (.bool false)))] [1,3,5,22])
 (.cond (tm 22) (.seq (rg [op 6 (.mv (zi 6))] [6])
 .ret)
 .skip))
 (.seq (.seq (rg [ao 23 0 5,ld 24 23,op 25 (ar .eql (tm 24) (zi 6))] [1,3,5,25])
 (.cond (tm 25) (.seq (rg [oq 26 (.load true 10 (tm 3)) [29],ao 27 2 5,ld 28 27,op 7 (.call (.fn 123) [(tm 26),(tm 28)])] [1,3,5,7])
 (.seq (.seq (rg [oq 31 (ar .lss (tm 7) (zi 0)) [31]] [1,3,5,7,31])
 (.cond (tm 31) (.seq (rg [op 6 (.mv (zi 6))] [6])
 .ret)
 .skip))
 (.seq (dr [aq 32 3 5,lq 33 32,oq 34 (.len false (tm 33)) [33],aq 35 0 3,lq 36 35,oq 37 (.mv (tm 7)) [7],oq 38 (.indexAddrS 3 (tm 36) (tm 37)) [36,37],aq 39 1 38,lq 40 39,oq 41 (.len false (tm 40)) [40],oq 42 (ar .neq (tm 34) (tm 41)) [34,41]] [0,1,3,0,8,0,56,120,248,504,1023] [1,3,5,42])
 (.cond (tm 42) (.seq (rg [op 6 (.mv (zi 7))] [6])
 .ret)
 .skip))))
 .skip))
 (.seq (.seq (rg [op 8 (.mv (zi 0))] [1,3,5,8])
 (.block 0 (.loop lp73_0)))
 (.seq (.seq (rg [op 11 (.mv (zi 0))] [1,3,5,11])
 (.block 2 (.loop lp73_1)))
 (.seq (rg [op 6 (.mv (zi 0))] [6])
 .ret))))))⟩
theorem good73:Good Tryz.prog (73,af73):=mkG Z0 [(0,[1,3,5]),(1,[1,3,5,22]),(2,[6]),(3,[1,3,5,25]),(4,[1,3,5,7]),(5,[1,3,5,7,31]),(6,[6]),(7,[1,3,5,42]),(8,[6]),(9,[1,3,5,8]),(10,[1,3,5,8,48]),(12,[1,3,5,8,10]),(13,[1,3,5,8,10,64]),(14,[6]),(11,[1,3,5,8]),(15,[1,3,5,11]),(16,[1,3,5,11,70]),(18,[1,3,5,11,12]),(19,[1,3,5,11,12,82]),(20,[6]),(17,[1,3,5,11]),(21,[6])] Tryz.func73 (by kernel_rfl)
def lp74_0:ACode:=
 (.seq (rg [op 36 (ar .lss (tm 35) (tm 34))] [1,3,4,20,21,33,34,35,36])
 (.seq (.cond (tm 36) .skip
 (.exit 2))
 (.seq (.block 3 (.seq (rg [op 37 (.indexAddrS 7 (tm 33) (tm 35)),op 38 (.load true 7 (tm 37)),op 8 (.alloc z7a),on (.store 7 (tm 8) (tm 38))] [1,3,4,8,20,21,33,34,35])
 (dr [lq 39 3,oq 40 (.load true 7 (tm 8)) [8],oq 41 (.call (.fn 78) [(tm 40)]) [40],oq 42 (.len false (tm 39)) [39],op 43 (.buildSlice 7 1 z7a [(0,(.lit (.agg z7a)))]),oq 44 (.append 7 120 (tm 39) (tm 43)) [39,43],oq 45 (.indexAddrS 7 (tm 44) (tm 42)) [44,42],om (.store 7 (tm 45) (tm 41)) [45,41],om (.store 1 (tm 3) (tm 44)) [3,44]] [0,0,2,1,0,31,63,127,63] [1,3,4,20,21,33,34,35])))
 (rg [oq 35 (ar .add (tm 35) (zi 1)) [46]] [1,3,4,20,21,33,34,35]))))
def lp74_1:ACode:=
 (.seq (rg [op 22 (ar .lss (tm 21) (tm 20))] [1,3,4,20,21,22])
 (.seq (.cond (tm 22) .skip
 (.exit 0))
 (.seq (.block 1 (.seq (rg [oq 5 (.mv (tm 21)) [23]] [1,3,4,5,20,21])
 (.seq (rg [oq 25 (.load true 6 (tm 1)) [28],op 26 (.build [(.int .i64 0),(.int .i64 0),(.str []),.empty,.empty,(.int .i64 0),.nilptr] [(0,6,(tm 25))]),op 6 (.call (.fn 75) [(tm 4),(tm 26),(tm 5)])] [1,3,4,6,20,21])
 (.seq (rg [oq 31 (.mkFunc 77 [(tm 4)] []) [32],op 32 (.call (.fn 76) [(tm 6),(tm 31)])] [1,3,4,6,20,21])
 (.seq (rg [op 33 (.mv (tm 6)),op 34 (.len false (tm 33)),op 35 (.mv (zi 0))] [1,3,4,20,21,33,34,35])
 (.block 2 (.loop lp74_0)))))))
 (rg [oq 21 (ar .add (tm 21) (zi 1)) [47]] [1,3,4,20,21]))))
def af74:AFunc:=⟨48,4,[],
 (.seq (rg [oq 9 (.load true 10 (tm 0)) [12],op 10 (.load true 6 (tm 1)),ld 11 2,op 4 (.call (.fn 69) [(tm 9),(tm 10),(tm 11)])] [1,2,3,4])
 (.seq (.seq (rg [oq 14 (.load true 6 (tm 1)) [17],ld 15 2,op 16 (.call (.fn 70) [(tm 4),(tm 14),(tm 15)]),op 17 (ar .gtr (tm 16) (zi 500))] [1,2,3,4,17])
 (.cond (tm 17) (rg [op 18 (.call (.fn 58) [(zi 3)])] [1,2,3,4])
 .skip))
 (.seq (rg [ld 19 2,op 20 (ar .add (tm 19) (zi 1)),op 21 (.mv (zi 0))] [1,3,4,20,21])
 (.block 0 (.loop lp74_1)))))⟩
theorem good74:Good Tryz.prog (74,af74):=mkG Z0 [(0,[1,2,3,4]),(1,[1,2,3,4,17]),(2,[1,2,3,4]),(3,[1,3,4,20,21]),(4,[1,3,4,20,21,22]),(5,[1,3,4,5,20,21]),(6,[1,3,4,6,20,21]),(7,[1,3,4,6,20,21]),(8,[1,3,4,20,21,33,34,35]),(9,[1,3,4,20,21,33,34,35,36]),(10,[1,3,4,8,20,21,33,34,35]),(11,[1,3,4,20,21,33,34,35]),(12,[1,3,4,20,21,33,34,35]),(13,[1,3,4,20,21])] Tryz.func74 (by kernel_rfl)
def lp75_0:ACode:=
 (.seq (rg [op 35 (ar .lss (tm 34) (tm 33))] [6,7,33,34,35])
 (.seq (.cond (tm 35) .skip
 (.exit 1))
 (.seq (.block 2 (.seq (rg [oq 8 (.mv (tm 34)) [36]] [6,7,8,33,34])
 (rg [oq 37 (.mv (tm 6)) [42],op 40 (.build [(.int .i64 0),(.int .i64 0),(.str []),(.str []),(.slice []),(.slice []),(.slice [])] [(0,1,(tm 7)),(1,1,(tm 8))]),op 41 (.buildSlice 7 1 z7a [(0,(tm 40))]),op 6 (.append 7 120 (tm 37) (tm 41))] [6,7,33,34])))
 (rg [oq 34 (ar .add (tm 34) (zi 1)) [43]] [6,7,33,34]))))
def lp75_1:ACode:=
 (.seq (rg [op 66 (ar .lss (tm 65) (tm 64))] [0,2,6,10,12,51,52,53,63,64,65,66])
 (.seq (.cond (tm 66) .skip
 (.exit 5))
 (.seq (.block 6 (.seq (rg [oq 67 (.indexAddrS 1 (tm 63) (tm 65)) [68],ld 14 67] [0,2,6,10,12,14,51,52,53,63,64,65])
 (rg [oq 69 (.mv (tm 6)) [75],ao 70 0 12,ld 71 70,op 73 (.build [(.int .i64 0),(.int .i64 0),(.str []),(.str []),(.slice []),(.slice []),(.slice [])] [(0,1,(zi 10)),(2,1,(tm 71)),(5,1,(tm 14))]),op 74 (.buildSlice 7 1 z7a [(0,(tm 73))]),op 6 (.append 7 120 (tm 69) (tm 74))] [0,2,6,10,12,51,52,53,63,64,65])))
 (rg [oq 65 (ar .add (tm 65) (zi 1)) [76]] [0,2,6,10,12,51,52,53,63,64,65]))))
def lp75_2:ACode:=
 (.seq (rg [op 54 (ar .lss (tm 53) (tm 52))] [0,2,6,10,51,52,53,54])
 (.seq (.cond (tm 54) .skip
 (.exit 3))
 (.seq (.block 4 (.seq (rg [op 55 (.indexAddrS 2 (tm 51) (tm 53)),op 56 (.load true 2 (tm 55)),op 12 (.alloc z2a),on (.store 2 (tm 12) (tm 56))] [0,2,6,10,12,51,52,53])
 (.seq (rg [oq 58 (.addOff 1 (tm 12)) [65],ld 59 58,op 62 (ar .sub (tm 2) (zi 1)),op 63 (.call (.fn 126) [(tm 0),(tm 59),(tm 10),(tm 62)]),op 64 (.len false (tm 63)),op 65 (.mv (zi 0))] [0,2,6,10,12,51,52,53,63,64,65])
 (.block 5 (.loop lp75_1)))))
 (rg [oq 53 (ar .add (tm 53) (zi 1)) [77]] [0,2,6,10,51,52,53]))))
def af75:AFunc:=⟨79,3,[.tmp 6],
 (.seq (rg [op 4 (.box (tm 1)),op 6 (.newrow 7)] [0,2,4,6])
 (.seq (rg [op 15 (.load true 7 (tm 4)),op 16 (.call (.fn 124) [(tm 15)]),on (.store 7 (tm 4) (tm 16))] [0,2,4,6])
 (.seq (.seq (rg [ao 17 0 4,ao 18 0 17,ld 19 18] [0,2,4,6,19])
 (.block 0 (.seq (.seq (rg [oq 20 (ar .eql (tm 19) (zi 2)) [21]] [0,2,4,6,19,20])
 (.cond (tm 20) .skip
 (.seq (rg [oq 20 (ar .eql (tm 19) (zi 3)) [22]] [0,2,4,6,19,20])
 (.cond (tm 20) .skip
 (rg [oq 20 (ar .eql (tm 19) (zi 4)) [23]] [0,2,4,6,20])))))
 (.cond (tm 20) (.seq (rg [oq 24 (.mkMap) [29],on (.mapUpdate 1 (tm 24) (zi 2) (zi 1)),on (.mapUpdate 1 (tm 24) (zi 3) (zi 2)),on (.mapUpdate 1 (tm 24) (zi 4) (zi 3)),ao 26 0 4,ao 27 0 26,ld 28 27,op 7 (.lookup 1 (.int .i64 0) false (tm 24) (tm 28))] [0,2,4,6,7])
 (.seq (.seq (rg [oq 31 (.load true 7 (tm 4)) [34],op 33 (.call (.fn 119) [(tm 0),(tm 31),(tm 2)]),op 34 (.mv (zi 0))] [6,7,33,34])
 (.block 1 (.loop lp75_0)))
 (.seq (rg [oq 6 (.mv (tm 6)) [44]] [6])
 .ret)))
 .skip))))
 (.seq (rg [oq 47 (.load true 7 (tm 4)) [50],op 45 (.call (.fn 125) [(tm 0),(tm 47)]),op 49 (.extract (tm 45) 0),op 50 (.extract (tm 45) 1),op 9 (.mv (tm 49)),op 10 (.mv (tm 50))] [0,2,6,9,10])
 (.seq (.seq (rg [op 51 (.mv (tm 9)),op 52 (.len false (tm 51)),op 53 (.mv (zi 0))] [0,2,6,10,51,52,53])
 (.block 3 (.loop lp75_2)))
 (.seq (rg [oq 6 (.mv (tm 6)) [78]] [6])
 .ret))))))⟩
theorem good75:Good Tryz.prog (75,af75):=mkG (fun t=>t==6||t==40||t==73) [(0,[0,2,4,6]),(1,[0,2,4,6]),(2,[0,2,4,6,19]),(3,[0,2,4,6,19,20]),(4,[0,2,4,6,19,20]),(5,[0,2,4,6,20]),(6,[0,2,4,6,7]),(7,[6,7,33,34]),(8,[6,7,33,34,35]),(9,[6,7,8,33,34]),(10,[6,7,33,34]),(11,[6,7,33,34]),(12,[6]),(13,[0,2,6,9,10]),(14,[0,2,6,10,51,52,53]),(15,[0,2,6,10,51,52,53,54]),(16,[0,2,6,10,12,51,52,53]),(17,[0,2,6,10,12,51,52,53,63,64,65]),(18,[0,2,6,10,12,51,52,53,63,64,65,66]),(19,[0,2,6,10,12,14,51,52,53,63,64,65]),(20,[0,2,6,10,12,51,52,53,63,64,65]),(21,[0,2,6,10,12,51,52,53,63,64,65]),(22,[0,2,6,10,51,52,53]),(23,[6])] Tryz.func75 (by kernel_rfl)
def af76:AFunc:=⟨9,2,[],
 (rg [oq 6 (.len false (tm 0)) [8],op 8 (.call (.fn 127) [(tm 0),(tm 6),(tm 1)])] [])⟩
theorem good76:Good Tryz.prog (76,af76):=mkG Z0 [(0,[])] Tryz.func76 (by kernel_rfl)
def lp77_0:ACode:=
 (.seq (rg [op 55 (ar .lss (tm 54) (tm 53))] [0,4,5,53,54,55])
 (.seq (.cond (tm 55) .skip
 (.exit 0))
 (.seq (.block 1 (.seq (rg [oq 8 (.mv (tm 54)) [56]] [0,4,5,8,53,54])
 (.seq (dr [oq 57 (.mv (tm 0)) [0],aq 58 5 4,lq 59 58,oq 60 (.mv (tm 8)) [8],oq 61 (.indexAddrS 7 (tm 59) (tm 60)) [59,60],oq 62 (.load true 7 (tm 61)) [61],aq 63 5 5,lq 64 63,oq 65 (.mv (tm 8)) [8],oq 66 (.indexAddrS 7 (tm 64) (tm 65)) [64,65],oq 67 (.load true 7 (tm 66)) [66],oq 68 (.call (.fn 77) [(tm 57),(tm 62),(tm 67)]) [57,62,67],oq 9 (.mv (tm 68)) [68]] [0,0,2,0,14,30,0,64,0,448,960,2047,4095] [0,4,5,9,53,54])
 (.seq (rg [oq 70 (ar .neq (tm 9) (zi 0)) [70]] [0,4,5,9,53,54,70])
 (.cond (tm 70) (.seq (rg [oq 6 (.mv (tm 9)) [71]] [6])
 .ret)
 .skip)))))
 (rg [oq 54 (ar .add (tm 54) (zi 1)) [72]] [0,4,5,53,54]))))
def af77:AFunc:=⟨73,3,[.tmp 6],
 (.seq (rg [oq 4 (.box (tm 1)) [6],op 5 (.box (tm 2))] [0,4,5])
 (.seq (.seq (dr [oq 10 (.load true 7 (tm 4)) [4],oq 11 (.call (.fn 128) [(tm 10)]) [10],oq 12 (.load true 7 (tm 5)) [5],oq 13 (.call (.fn 128) [(tm 12)]) [12],oq 14 (ar .sub (tm 11) (tm 13)) [11,13],oq 7 (.mv (tm 14)) [14]] [0,1,0,7,15,31] [0,4,5,7])
 (.seq (rg [oq 16 (ar .neq (tm 7) (zi 0)) [16]] [0,4,5,7,16])
 (.cond (tm 16) (.seq (rg [oq 6 (.mv (tm 7)) [17]] [6])
 .ret)
 .skip)))
 (.seq (.seq (rg [oq 18 (.addOff 0 (tm 4)) [27],ld 19 18,op 21 (ar .neq (tm 19) (zi 10)),gf 22 21 (.addOff 2 (tm 4)) [],gf 23 21 (l1 (tm 22)) [],gf 24 21 (.addOff 2 (tm 5)) [],gf 25 21 (l1 (tm 24)) [],gf 26 21 (ar .neq (tm 23) (tm 25)) [],op 27 (.pick (tm 21) (.lit (.bool true)) (tm 26))] [0,4,5,27])
 (.cond (tm 27) (.seq (dr [aq 28 1 4,lq 29 28,aq 30 1 5,lq 31 30,oq 32 (ar .sub (tm 29) (tm 31)) [29,31],oq 33 (.mv (tm 0)) [0],oq 34 (.nilCheck (tm 33)) [33],aq 35 10 34,lq 36 35,aq 37 2 4,lq 38 37,oq 39 (.lookup 2 (.agg z2) false (tm 36) (tm 38)) [36,38],oq 40 (.fieldOf false 1 1 (tm 39)) [39],oq 41 (ar .add (tm 32) (tm 40)) [32,40],oq 42 (.mv (tm 0)) [0],oq 43 (.nilCheck (tm 42)) [42],aq 44 10 43,lq 45 44,aq 46 2 5,lq 47 46,oq 48 (.lookup 2 (.agg z2) false (tm 45) (tm 47)) [45,47],oq 49 (.fieldOf false 1 1 (tm 48)) [48],oq 50 (ar .sub (tm 41) (tm 49)) [41,49],oq 6 (.mv (tm 50)) [50]] [0,1,0,4,15,0,32,96,224,0,512,2016,4064,8191,0,16384,49152,114688,0,262144,1032192,2080768,4194303,8388607] [6])
 .ret)
 .skip))
 (.seq (.seq (rg [ao 51 5 4,ld 52 51,op 53 (.len false (tm 52)),op 54 (.mv (zi 0))] [0,4,5,53,54])
 (.block 0 (.loop lp77_0)))
 (.seq (rg [op 6 (.mv (zi 0))] [6])
 .ret)))))⟩
theorem good77:Good Tryz.prog (77,af77):=mkG Z0 [(0,[0,4,5]),(1,[0,4,5,7]),(2,[0,4,5,7,16]),(3,[6]),(4,[0,4,5,27]),(5,[6]),(6,[0,4,5,53,54]),(7,[0,4,5,53,54,55]),(8,[0,4,5,8,53,54]),(9,[0,4,5,9,53,54]),(10,[0,4,5,9,53,54,70]),(11,[6]),(12,[0,4,5,53,54]),(13,[6])] Tryz.func77 (by kernel_rfl)
def lp78_0:ACode:=
 (.seq (rg [op 12 (ar .lss (tm 11) (tm 10))] [1,2,9,10,11,12])
 (.seq (.cond (tm 12) .skip
 (.exit 0))
 (.seq (.block 1 (.seq (rg [op 13 (.indexAddrS 7 (tm 9) (tm 11)),op 14 (.load true 7 (tm 13)),op 5 (.alloc z7a),on (.store 7 (tm 5) (tm 14))] [1,2,5,9,10,11])
 (dr [aq 15 5 1,lq 16 15,oq 17 (.load true 7 (tm 5)) [5],oq 18 (.call (.fn 78) [(tm 17)]) [17],oq 19 (.buildSlice 7 1 z7a [(0,(tm 18))]) [18],oq 20 (.append 7 120 (tm 16) (tm 19)) [16,19],aq 21 5 1,om (.store 1 (tm 21) (tm 20)) [21,20]] [0,1,0,4,12,31,63,127] [1,2,9,10,11])))
 (rg [oq 11 (ar .add (tm 11) (zi 1)) [22]] [1,2,9,10,11]))))
def af78:AFunc:=⟨24,1,[.cell 2 true 7],
 (.seq (rg [op 1 (.box (tm 0)),op 2 (.alloc z7a)] [1,2])
 (.seq (rg [oq 6 (.addOff 5 (tm 1)) [7],ld 3 6] [1,2,3])
 (.seq (rg [ao 8 5 1,on (.store 1 (tm 8) (.lit .empty))] [1,2,3])
 (.seq (.seq (rg [op 9 (.mv (tm 3)),op 10 (.len false (tm 9)),op 11 (.mv (zi 0))] [1,2,9,10,11])
 (.block 0 (.loop lp78_0)))
 (.seq (rg [op 23 (.load true 7 (tm 1)),on (.store 7 (tm 2) (tm 23))] [2])
 .ret)))))⟩
theorem good78:Good Tryz.prog (78,af78):=mkG Z0 [(0,[1,2]),(1,[1,2,3]),(2,[1,2,3]),(3,[1,2,9,10,11]),(4,[1,2,9,10,11,12]),(5,[1,2,5,9,10,11]),(6,[1,2,9,10,11]),(7,[1,2,9,10,11]),(8,[2])] Tryz.func78 (by kernel_rfl)
def af79:AFunc:=⟨18,4,[],
 (.seq (rg [oq 5 (.load true 10 (tm 0)) [6],op 4 (.call (.fn 55) [(tm 5)])] [1,2,3,4])
 (.seq (rg [oq 8 (.load true 6 (tm 1)) [9],op 9 (.call (.fn 65) [(tm 4),(tm 8)])] [1,2,3,4])
 (.seq (rg [op 10 (.load true 7 (tm 2)),op 11 (.call (.fn 80) [(tm 10)]),op 12 (.call (.fn 59) [(tm 11)])] [1,2,3,4])
 (rg [oq 14 (.load true 6 (tm 1)) [17],op 15 (.build [(.int .i64 0),(.int .i64 0),(.str []),.empty,.empty,(.int .i64 0),.nilptr] [(0,6,(tm 14))]),op 16 (.load true 7 (tm 2)),op 17 (.call (.fn 81) [(tm 4),(tm 15),(tm 16)]),on (.store 1 (tm 3) (tm 17))] []))))⟩
theorem good79:Good Tryz.prog (79,af79):=mkG Z0 [(0,[1,2,3,4]),(1,[1,2,3,4]),(2,[1,2,3,4]),(3,[])] Tryz.func79 (by kernel_rfl)
def af80:AFunc:=⟨11,1,[.tmp 2],
 (.seq (rg [oq 1 (.box (tm 0)) [2]] [1])
 (.seq (rg [oq 6 (.load true 7 (tm 1)) [9],op 5 (.call (.fn 82) [(tm 6)]),op 8 (.extract (tm 5) 0),op 9 (.extract (tm 5) 1),op 3 (.alloc z2),on (.store 2 (tm 3) (tm 8)),op 4 (.mv (tm 9))] [4])
 (.seq (rg [oq 2 (.mv (tm 4)) [10]] [2])
 .ret)))⟩
theorem good80:Good Tryz.prog (80,af80):=mkG Z0 [(0,[1]),(1,[4]),(2,[2])] Tryz.func80 (by kernel_rfl)
def lp81_0:ACode:=
 (.seq (rg [op 69 (ar .lss (tm 68) (tm 67))] [0,5,8,66,67,68,69])
 (.seq (.cond (tm 69) .skip
 (.exit 1))
 (.seq (.block 2 (.seq (rg [oq 71 (.indexAddrS 6 (tm 66) (tm 68)) [72],op 72 (.load true 6 (tm 71)),op 11 (.alloc z6),op 10 (.mv (tm 68)),on (.store 6 (tm 11) (tm 72))] [0,5,8,10,11,66,67,68])
 (.seq (dr [oq 73 (.mv (tm 0)) [0],oq 74 (.load true 6 (tm 11)) [11],oq 75 (.mv (tm 8)) [8],oq 76 (.build [(.int .i64 0),(.int .i64 0),(.str []),.empty,.empty,(.int .i64 0),.nilptr] [(0,6,(tm 74)),(6,1,(tm 75))]) [74,75],aq 77 5 5,lq 78 77,oq 79 (.mv (tm 10)) [10],oq 80 (.indexAddrS 7 (tm 78) (tm 79)) [78,79],oq 81 (.load true 7 (tm 80)) [80],oq 82 (.call (.fn 81) [(tm 73),(tm 76),(tm 81)]) [73,76,81],oq 83 (.not (tm 82)) [82]] [0,0,0,6,0,16,0,112,240,511,1023] [0,5,8,66,67,68,83])
 (.cond (tm 83) (.seq (rg [op 6 (.mv (.lit (.bool false)))] [6])
 .ret)
 .skip))))
 (rg [oq 68 (ar .add (tm 68) (zi 1)) [84]] [0,5,8,66,67,68]))))
def af81:AFunc:=⟨85,3,[.tmp 6],
 (.seq (rg [oq 4 (.box (tm 1)) [6],op 5 (.box (tm 2))] [0,4,5])
 (.seq (rg [op 12 (.load true 7 (tm 4)),op 13 (.call (.fn 124) [(tm 12)]),on (.store 7 (tm 4) (tm 13))] [0,4,5])
 (.seq (.seq (rg [ao 14 0 4,ao 15 0 14,ld 16 15] [0,4,5,16])
 (.block 0 (.seq (rg [oq 17 (ar .eql (tm 16) (zi 2)) [18]] [0,4,5,16,17])
 (.cond (tm 17) (.seq (rg [oq 19 (.addOff 0 (tm 5)) [21],ld 20 19,op 6 (ar .eql (tm 20) (zi 1))] [6])
 .ret)
 (.seq (rg [oq 22 (ar .eql (tm 16) (zi 3)) [23]] [0,4,5,16,22])
 (.cond (tm 22) (.seq (rg [oq 24 (.addOff 0 (tm 5)) [26],ld 25 24,op 6 (ar .eql (tm 25) (zi 2))] [6])
 .ret)
 (.seq (rg [oq 27 (ar .eql (tm 16) (zi 4)) [28]] [0,4,5,16,27])
 (.cond (tm 27) (.seq (rg [oq 29 (.addOff 0 (tm 5)) [31],ld 30 29,op 6 (ar .eql (tm 30) (zi 3))] [6])
 .ret)
 (.seq (rg [oq 32 (ar .eql (tm 16) (zi 6)) [33]] [0,4,5,32])
 (.cond (tm 32) (.seq (rg [oq 36 (.load true 7 (tm 4)) [39],op 34 (.call (.fn 125) [(tm 0),(tm 36)]),op 38 (.extract (tm 34) 0),op 39 (.extract (tm 34) 1),op 7 (.mv (tm 38)),op 8 (.mv (tm 39))] [0,5,7,8])
 (.seq (rg [oq 41 (.mkFunc 129 [] [(tm 5)]) [42],op 9 (.call (.fn 87) [(tm 7),(tm 41)])] [0,5,7,8,9])
 (.seq (.seq (dr [aq 43 0 5,lq 44 43,oq 45 (ar .neq (tm 44) (zi 10)) [44],oq 46 (.mv (tm 45)) [45],gf 47 46 (.mv (tm 9)) [9,46],gf 48 46 (ar .lss (tm 47) (zi 0)) [47,46],oq 49 (.pick (tm 46) (.lit (.bool true)) (tm 48)) [46,48],oq 50 (.mv (tm 49)) [49],gf 51 50 (.mv (tm 7)) [7,50],gf 52 50 (.mv (tm 9)) [9,50],gf 53 50 (.indexAddrS 2 (tm 51) (tm 52)) [51,52,50],gf 54 50 (.addOff 1 (tm 53)) [53,50],gf 55 50 (l1 (tm 54)) [54,50],gf 56 50 (.len false (tm 55)) [55,50],gf 57 50 (.addOff 5 (tm 5)) [5,50],gf 58 50 (l1 (tm 57)) [57,50],gf 59 50 (.len false (tm 58)) [58,50],gf 60 50 (ar .neq (tm 56) (tm 59)) [56,59,50],oq 61 (.pick (tm 50) (.lit (.bool true)) (tm 60)) [50,60]] [0,1,3,7,15,31,63,127,255,255,1023,2047,4095,8191,255,16639,49407,131071,262143] [0,5,7,8,9,61])
 (.cond (tm 61) (.seq (rg [op 6 (.mv (.lit (.bool false)))] [6])
 .ret)
 .skip))
 (.seq (.seq (rg [oq 64 (.indexAddrS 2 (tm 7) (tm 9)) [68],ao 65 1 64,ld 66 65,op 67 (.len false (tm 66)),op 68 (.mv (zi 0))] [0,5,8,66,67,68])
 (.block 1 (.loop lp81_0)))
 (.seq (rg [op 6 (.mv (.lit (.bool true)))] [6])
 .ret)))))
 .skip))))))))))
 (.seq (rg [op 6 (.mv (.lit (.bool false)))] [6])
 .ret))))⟩
theorem good81:Good Tryz.prog (81,af81):=mkG Z0 [(0,[0,4,5]),(1,[0,4,5]),(2,[0,4,5,16]),(3,[0,4,5,16,17]),(5,[0,4,5,16,22]),(7,[0,4,5,16,27]),(9,[0,4,5,32]),(10,[0,5,7,8]),(11,[0,5,7,8,9]),(12,[0,5,7,8,9,61]),(13,[6]),(14,[0,5,8,66,67,68]),(15,[0,5,8,66,67,68,69]),(16,[0,5,8,10,11,66,67,68]),(17,[0,5,8,66,67,68,83]),(18,[6]),(19,[0,5,8,66,67,68]),(20,[6]),(8,[6]),(6,[6]),(4,[6]),(21,[6])] Tryz.func81 (by kernel_rfl)
def af82:AFunc:=⟨13,1,[.cell 2 true 2,.tmp 3],
 (.seq (rg [oq 1 (.box (tm 0)) [3],op 2 (.alloc z2)] [1,2])
 (.seq (rg [op 5 (.build z2 [(0,1,(zi 3000))]),op 4 (.alloc z2),on (.store 2 (tm 4) (tm 5))] [1,2,4])
 (.seq (.seq (rg [op 6 (.load true 7 (tm 1)),op 7 (.call (.fn 130) [(tm 4),(tm 6),(zi 1)]),op 8 (.not (tm 7))] [1,2,4,8])
 (.cond (tm 8) (.seq (rg [op 9 (.load true 2 (tm 4)),on (.store 2 (tm 2) (tm 9)),op 3 (.mv (zi 3))] [2,3])
 .ret)
 .skip))
 (.seq (dr [oq 10 (.load true 2 (tm 4)) [4],oq 11 (.load true 7 (tm 1)) [1],oq 12 (.call (.fn 131) [(tm 11)]) [11],om (.store 2 (tm 2) (tm 10)) [2,10],oq 3 (.mv (tm 12)) [12]] [0,0,2,7,15] [2,3])
 .ret))))⟩
theorem good82:Good Tryz.prog (82,af82):=mkG Z0 [(0,[1,2]),(1,[1,2,4]),(2,[1,2,4,8]),(3,[2,3]),(4,[2,3])] Tryz.func82 (by kernel_rfl)
def lp84_0:ACode:=
 (.seq (.seq (rg [oq 30 (.addOff 0 (tm 1)) [33],ld 31 30,op 32 (.len false (tm 31)),op 33 (ar .lss (tm 3) (tm 32))] [1,3,33])
 (.cond (tm 33) .skip
 (.exit 0)))
 (.seq (.block 1 (.seq (rg [oq 36 (.addOff 0 (tm 1)) [41],ld 37 36,op 39 (.indexAddrS 3 (tm 37) (tm 3)),op 40 (.load true 3 (tm 39)),op 4 (.call (.fn 133) [(tm 40)])] [1,3,4])
 (.seq (rg [oq 43 (ar .neq (tm 4) (zi 0)) [43]] [1,3,4,43])
 (.cond (tm 43) (.seq (rg [oq 2 (.mv (tm 4)) [44]] [2])
 .ret)
 .skip))))
 (rg [oq 34 (.mv (tm 3)) [35],op 3 (ar .add (tm 34) (zi 1))] [1,3])))
def lp84_1:ACode:=
 (.seq (.seq (rg [oq 46 (.addOff 1 (tm 1)) [49],ld 47 46,op 48 (.len false (tm 47)),op 49 (ar .lss (tm 5) (tm 48))] [1,5,49])
 (.cond (tm 49) .skip
 (.exit 2)))
 (.seq (.block 3 (.seq (rg [oq 52 (.addOff 1 (tm 1)) [57],ld 53 52,op 55 (.indexAddrS 2 (tm 53) (tm 5)),op 56 (.load true 2 (tm 55)),op 6 (.call (.fn 134) [(tm 56)])] [1,5,6])
 (.seq (rg [oq 59 (ar .neq (tm 6) (zi 0)) [59]] [1,5,6,59])
 (.cond (tm 59) (.seq (rg [oq 2 (.mv (tm 6)) [60]] [2])
 .ret)
 .skip))))
 (rg [oq 50 (.mv (tm 5)) [51],op 5 (ar .add (tm 50) (zi 1))] [1,5])))
def lp84_2:ACode:=
 (.seq (.seq (rg [oq 62 (.addOff 2 (tm 1)) [65],ld 63 62,op 64 (.len false (tm 63)),op 65 (ar .leq (tm 8) (tm 64))] [1,7,8,65])
 (.cond (tm 65) .skip
 (.exit 4)))
 (.seq (.block 5 (.seq (rg [oq 68 (.addOff 3 (tm 1)) [71],op 69 (.load true 7 (tm 68)),op 71 (ar .sub (zi 200) (tm 8)),op 9 (.alloc z7a),on (.store 7 (tm 9) (tm 69)),op 10 (.mv (tm 71))] [1,7,8,9,10])
 (.seq (.seq (rg [oq 73 (.addOff 2 (tm 1)) [76],ld 74 73,op 75 (.len false (tm 74)),op 76 (ar .lss (tm 8) (tm 75))] [1,7,8,9,10,76])
 (.cond (tm 76) (.seq (rg [oq 77 (.addOff 2 (tm 1)) [84],ld 78 77,op 80 (.indexAddrS 8 (tm 78) (tm 8)),ao 81 1 80,op 82 (.load true 7 (tm 81)),op 83 (.mv (tm 10)),op 84 (ar .sub (tm 83) (zi 1)),on (.store 7 (tm 9) (tm 82)),op 10 (.mv (tm 84))] [1,7,8,9,10])
 (rg [oq 85 (.mv (tm 7)) [86],op 7 (ar .sub (tm 85) (zi 1))] [1,7,8,9,10]))
 .skip))
 (.seq (rg [oq 87 (.load true 7 (tm 9)) [90],op 88 (.mv (tm 7)),op 7 (.call (.fn 132) [(tm 87),(tm 88),(tm 10)])] [1,7,8])
 (.seq (rg [oq 92 (ar .lss (tm 7) (zi 0)) [92]] [1,7,8,92])
 (.cond (tm 92) (.seq (rg [op 2 (.mv (zi 3))] [2])
 .ret)
 .skip))))))
 (rg [oq 66 (.mv (tm 8)) [67],op 8 (ar .add (tm 66) (zi 1))] [1,7,8])))
def lp84_3:ACode:=
 (.seq (.seq (rg [oq 94 (.addOff 2 (tm 1)) [97],ld 95 94,op 96 (.len false (tm 95)),op 97 (ar .lss (tm 11) (tm 96))] [1,11,97])
 (.cond (tm 97) .skip
 (.exit 6)))
 (.seq (.block 7 (.seq (.seq (rg [oq 100 (.addOff 2 (tm 1)) [107],ld 101 100,op 103 (.indexAddrS 8 (tm 101) (tm 11)),ao 104 0 103,ld 105 104,op 106 (.call (.fn 135) [(tm 105)]),op 107 (.not (tm 106))] [1,11,107])
 (.cond (tm 107) (.seq (rg [op 2 (.mv (zi 4))] [2])
 .ret)
 .skip))
 (.seq (rg [oq 108 (.addOff 2 (tm 1)) [114],ld 109 108,op 111 (.indexAddrS 8 (tm 109) (tm 11)),ao 112 1 111,op 113 (.load true 7 (tm 112)),op 12 (.call (.fn 136) [(tm 113)])] [1,11,12])
 (.seq (rg [oq 116 (ar .neq (tm 12) (zi 0)) [116]] [1,11,12,116])
 (.cond (tm 116) (.seq (rg [oq 2 (.mv (tm 12)) [117]] [2])
 .ret)
 .skip)))))
 (rg [oq 98 (.mv (tm 11)) [99],op 11 (ar .add (tm 98) (zi 1))] [1,11])))
def af84:AFunc:=⟨121,1,[.tmp 2],
 (.seq (rg [oq 1 (.box (tm 0)) [2]] [1])
 (.seq (.seq (rg [oq 13 (.addOff 0 (tm 1)) [28],ld 14 13,op 15 (.len false (tm 14)),op 17 (ar .gtr (tm 15) (zi 12)),gf 18 17 (.addOff 1 (tm 1)) [],gf 19 17 (l1 (tm 18)) [],gf 20 17 (.len false (tm 19)) [],gf 21 17 (ar .gtr (tm 20) (zi 12)) [],op 23 (.pick (tm 17) (.lit (.bool true)) (tm 21)),gf 24 23 (.addOff 2 (tm 1)) [],gf 25 23 (l1 (tm 24)) [],gf 26 23 (.len false (tm 25)) [],gf 27 23 (ar .gtr (tm 26) (zi 60)) [],op 28 (.pick (tm 23) (.lit (.bool true)) (tm 27))] [1,28])
 (.cond (tm 28) (.seq (rg [op 2 (.mv (zi 3))] [2])
 .ret)
 .skip))
 (.seq (.seq (rg [op 3 (.mv (zi 0))] [1,3])
 (.block 0 (.loop lp84_0)))
 (.seq (.seq (rg [op 5 (.mv (zi 0))] [1,5])
 (.block 2 (.loop lp84_1)))
 (.seq (rg [op 7 (.mv (zi 3000))] [1,7])
 (.seq (.seq (rg [op 8 (.mv (zi 0))] [1,7,8])
 (.block 4 (.loop lp84_2)))
 (.seq (.seq (rg [op 11 (.mv (zi 0))] [1,11])
 (.block 6 (.loop lp84_3)))
 (.seq (rg [oq 118 (.addOff 3 (tm 1)) [120],op 119 (.load true 7 (tm 118)),op 2 (.call (.fn 136) [(tm 119)])] [2])
 .ret))))))))⟩
theorem good84:Good Tryz.prog (84,af84):=mkG Z0 [(0,[1]),(1,[1,28]),(2,[2]),(3,[1,3]),(4,[1,3,33]),(6,[1,3,4]),(7,[1,3,4,43]),(8,[2]),(5,[1,3]),(9,[1,5]),(10,[1,5,49]),(12,[1,5,6]),(13,[1,5,6,59]),(14,[2]),(11,[1,5]),(15,[1,7]),(16,[1,7,8]),(17,[1,7,8,65]),(19,[1,7,8,9,10]),(20,[1,7,8,9,10,76]),(21,[1,7,8,9,10]),(22,[1,7,8,9,10]),(23,[1,7,8]),(24,[1,7,8,92]),(25,[2]),(18,[1,7,8]),(26,[1,11]),(27,[1,11,97]),(29,[1,11,107]),(30,[2]),(31,[1,11,12]),(32,[1,11,12,116]),(33,[2]),(28,[1,11]),(34,[2])] Tryz.func84 (by kernel_rfl)
def lp85_0:ACode:=
 (.seq (.seq (rg [oq 61 (.addOff 2 (tm 6)) [68],ld 62 61,op 64 (.indexAddrS 2 (tm 62) (tm 7)),ao 65 1 64,ld 66 65,op 67 (.len false (tm 66)),op 68 (ar .lss (tm 8) (tm 67))] [1,3,4,5,6,7,8,68])
 (.cond (tm 68) .skip
 (.exit 4)))
 (.seq (.block 5 (.seq (dr [oq 71 (.load true 10 (tm 1)) [1],aq 72 1 6,lq 73 72,aq 74 2 6,lq 75 74,oq 76 (.mv (tm 7)) [7],oq 77 (.indexAddrS 2 (tm 75) (tm 76)) [75,76],aq 78 1 77,lq 79 78,oq 80 (.mv (tm 8)) [8],oq 81 (.indexAddrS 6 (tm 79) (tm 80)) [79,80],oq 82 (.load true 6 (tm 81)) [81],oq 83 (.call (.fn 73) [(tm 71),(tm 73),(tm 82)]) [71,73,82],oq 9 (.mv (tm 83)) [83]] [0,0,2,0,8,0,56,120,248,0,1016,2040,4095,8191] [1,3,4,5,6,7,8,9])
 (.seq (rg [oq 85 (ar .neq (tm 9) (zi 0)) [85]] [1,3,4,5,6,7,8,9,85])
 (.cond (tm 85) (.seq (rg [oq 2 (.mv (tm 9)) [86]] [2])
 .ret)
 .skip))))
 (rg [oq 69 (.mv (tm 8)) [70],op 8 (ar .add (tm 69) (zi 1))] [1,3,4,5,6,7,8])))
def lp85_1:ACode:=
 (.seq (.seq (rg [oq 37 (.addOff 2 (tm 6)) [40],ld 38 37,op 39 (.len false (tm 38)),op 40 (ar .lss (tm 7) (tm 39))] [1,3,4,5,6,7,40])
 (.cond (tm 40) .skip
 (.exit 2)))
 (.seq (.block 3 (.seq (.seq (rg [oq 44 (.addOff 2 (tm 6)) [50],ld 45 44,op 47 (.indexAddrS 2 (tm 45) (tm 7)),ao 48 0 47,ld 49 48,op 50 (.call (.fn 122) [(tm 4),(tm 49)])] [1,3,4,5,6,7,50])
 (.cond (tm 50) (.seq (rg [op 2 (.mv (zi 5))] [2])
 .ret)
 .skip))
 (.seq (rg [oq 51 (.mv (tm 4)) [59],ao 52 2 6,ld 53 52,op 55 (.indexAddrS 2 (tm 53) (tm 7)),ao 56 0 55,ld 57 56,op 58 (.buildSlice 1 1 [(.str [])] [(0,(tm 57))]),op 4 (.append 1 16 (tm 51) (tm 58))] [1,3,4,5,6,7])
 (.seq (rg [op 8 (.mv (zi 0))] [1,3,4,5,6,7,8])
 (.block 4 (.loop lp85_0))))))
 (rg [oq 41 (.mv (tm 7)) [42],op 7 (ar .add (tm 41) (zi 1))] [1,3,4,5,6,7])))
def lp85_2:ACode:=
 (.seq (.seq (rg [oq 11 (.addOff 0 (tm 1)) [14],ld 12 11,op 13 (.len false (tm 12)),op 14 (ar .lss (tm 5) (tm 13))] [1,3,4,5,14])
 (.cond (tm 14) .skip
 (.exit 0)))
 (.seq (.block 1 (.seq (rg [oq 17 (.addOff 0 (tm 1)) [21],ld 18 17,op 20 (.indexAddrS 3 (tm 18) (tm 5)),op 21 (.load true 3 (tm 20)),op 6 (.alloc z3),on (.store 3 (tm 6) (tm 21))] [1,3,4,5,6])
 (.seq (.seq (rg [oq 22 (.addOff 0 (tm 6)) [30],ld 23 22,op 25 (.call (.fn 137) [(tm 23)]),gf 26 25 (.mv (tm 3)) [],gf 27 25 (.addOff 0 (tm 6)) [],gf 28 25 (l1 (tm 27)) [],gf 29 25 (.call (.fn 122) [(tm 26),(tm 28)]) [],op 30 (.pick (tm 25) (.lit (.bool true)) (tm 29))] [1,3,4,5,6,30])
 (.cond (tm 30) (.seq (rg [op 2 (.mv (zi 5))] [2])
 .ret)
 .skip))
 (.seq (rg [oq 31 (.mv (tm 3)) [35],ao 32 0 6,ld 33 32,op 34 (.buildSlice 1 1 [(.str [])] [(0,(tm 33))]),op 3 (.append 1 16 (tm 31) (tm 34))] [1,3,4,5,6])
 (.seq (rg [op 7 (.mv (zi 0))] [1,3,4,5,6,7])
 (.block 2 (.loop lp85_1)))))))
 (rg [oq 15 (.mv (tm 5)) [16],op 5 (ar .add (tm 15) (zi 1))] [1,3,4,5])))
def af85:AFunc:=⟨87,1,[.tmp 2],
 (.seq (rg [oq 1 (.box (tm 0)) [2]] [1])
 (.seq (rg [op 3 (.newrow 1),op 4 (.newrow 1)] [1,3,4])
 (.seq (.seq (rg [op 5 (.mv (zi 0))] [1,3,4,5])
 (.block 0 (.loop lp85_2)))
 (.seq (rg [op 2 (.mv (zi 0))] [2])
 .ret))))⟩
theorem good85:Good Tryz.prog (85,af85):=mkG (fun t=>t==3||t==4) [(0,[1]),(1,[1,3,4]),(2,[1,3,4,5]),(3,[1,3,4,5,14]),(5,[1,3,4,5,6]),(6,[1,3,4,5,6,30]),(7,[2]),(8,[1,3,4,5,6]),(9,[1,3,4,5,6,7]),(10,[1,3,4,5,6,7,40]),(12,[1,3,4,5,6,7,50]),(13,[2]),(14,[1,3,4,5,6,7]),(15,[1,3,4,5,6,7,8]),(16,[1,3,4,5,6,7,8,68]),(18,[1,3,4,5,6,7,8,9]),(19,[1,3,4,5,6,7,8,9,85]),(20,[2]),(17,[1,3,4,5,6,7,8]),(11,[1,3,4,5,6,7]),(4,[1,3,4,5]),(21,[2])] Tryz.func85 (by kernel_rfl)
def lp86_0:ACode:=
 (.seq (.seq (rg [oq 34 (.addOff 1 (tm 6)) [37],ld 35 34,op 36 (.len false (tm 35)),op 37 (ar .lss (tm 7) (tm 36))] [1,3,4,5,6,7,37])
 (.cond (tm 37) .skip
 (.exit 2)))
 (.seq (.block 3 (.seq (rg [oq 40 (.addOff 1 (tm 6)) [44],ld 41 40,op 43 (.indexAddrS 14 (tm 41) (tm 7)),op 44 (.load true 14 (tm 43)),op 8 (.alloc z14),on (.store 14 (tm 8) (tm 44))] [1,3,4,5,6,7,8])
 (.seq (.seq (rg [oq 46 (.addOff 0 (tm 8)) [48],ld 47 46,op 48 (.call (.fn 122) [(tm 4),(tm 47)])] [1,3,4,5,6,7,8,48])
 (.cond (tm 48) (.seq (rg [op 2 (.mv (zi 5))] [2])
 .ret)
 .skip))
 (.seq (rg [oq 49 (.mv (tm 4)) [53],ao 50 0 8,ld 51 50,op 52 (.buildSlice 1 1 [(.str [])] [(0,(tm 51))]),op 4 (.append 1 16 (tm 49) (tm 52))] [1,3,4,5,6,7,8])
 (.seq (rg [oq 54 (.load true 10 (tm 1)) [57],ao 55 1 8,op 56 (.load true 6 (tm 55)),op 9 (.call (.fn 73) [(tm 54),(.lit .empty),(tm 56)])] [1,3,4,5,6,7,8,9])
 (.seq (.seq (rg [oq 59 (ar .eql (tm 9) (zi 0)) [59]] [1,3,4,5,6,7,8,9,59])
 (.cond (tm 59) (rg [oq 60 (.load true 10 (tm 1)) [63],ao 61 7 8,op 62 (.load true 6 (tm 61)),op 9 (.call (.fn 73) [(tm 60),(.lit .empty),(tm 62)])] [1,3,4,5,6,7,9])
 .skip))
 (.seq (rg [oq 65 (ar .neq (tm 9) (zi 0)) [65]] [1,3,4,5,6,7,9,65])
 (.cond (tm 65) (.seq (rg [oq 2 (.mv (tm 9)) [66]] [2])
 .ret)
 .skip))))))))
 (rg [oq 38 (.mv (tm 7)) [39],op 7 (ar .add (tm 38) (zi 1))] [1,3,4,5,6,7])))
def lp86_1:ACode:=
 (.seq (.seq (rg [oq 13 (.addOff 1 (tm 1)) [16],ld 14 13,op 15 (.len false (tm 14)),op 16 (ar .lss (tm 5) (tm 15))] [1,3,4,5,16])
 (.cond (tm 16) .skip
 (.exit 0)))
 (.seq (.block 1 (.seq (rg [oq 19 (.addOff 1 (tm 1)) [23],ld 20 19,op 22 (.indexAddrS 2 (tm 20) (tm 5)),op 23 (.load true 2 (tm 22)),op 6 (.alloc z2a),on (.store 2 (tm 6) (tm 23))] [1,3,4,5,6])
 (.seq (.seq (rg [oq 25 (.addOff 0 (tm 6)) [27],ld 26 25,op 27 (.call (.fn 122) [(tm 3),(tm 26)])] [1,3,4,5,6,27])
 (.cond (tm 27) (.seq (rg [op 2 (.mv (zi 5))] [2])
 .ret)
 .skip))
 (.seq (rg [oq 28 (.mv (tm 3)) [32],ao 29 0 6,ld 30 29,op 31 (.buildSlice 1 1 [(.str [])] [(0,(tm 30))]),op 3 (.append 1 16 (tm 28) (tm 31))] [1,3,4,5,6])
 (.seq (rg [op 7 (.mv (zi 0))] [1,3,4,5,6,7])
 (.block 2 (.loop lp86_0)))))))
 (rg [oq 17 (.mv (tm 5)) [18],op 5 (ar .add (tm 17) (zi 1))] [1,3,4,5])))
def af86:AFunc:=⟨67,1,[.tmp 2],
 (.seq (rg [oq 1 (.box (tm 0)) [2]] [1])
 (.seq (rg [op 10 (.buildRow 1 1 [(.str [])] [(0,(.lit (.str [73,79])))]),op 11 (.buildRow 1 2 [(.str [])] [(0,(.lit (.str [112,114,105,110,116]))),(1,(.lit (.str [114,101,97,100])))]),op 3 (.mv (tm 10)),op 4 (.mv (tm 11))] [1,3,4])
 (.seq (.seq (rg [op 5 (.mv (zi 0))] [1,3,4,5])
 (.block 0 (.loop lp86_1)))
 (.seq (rg [op 2 (.mv (zi 0))] [2])
 .ret))))⟩
theorem good86:Good Tryz.prog (86,af86):=mkG (fun t=>t==10||t==11) [(0,[1]),(1,[1,3,4]),(2,[1,3,4,5]),(3,[1,3,4,5,16]),(5,[1,3,4,5,6]),(6,[1,3,4,5,6,27]),(7,[2]),(8,[1,3,4,5,6]),(9,[1,3,4,5,6,7]),(10,[1,3,4,5,6,7,37]),(12,[1,3,4,5,6,7,8]),(13,[1,3,4,5,6,7,8,48]),(14,[2]),(15,[1,3,4,5,6,7,8]),(16,[1,3,4,5,6,7,8,9]),(17,[1,3,4,5,6,7,8,9,59]),(18,[1,3,4,5,6,7,9]),(19,[1,3,4,5,6,7,9,65]),(20,[2]),(11,[1,3,4,5,6,7]),(4,[1,3,4,5]),(21,[2])] Tryz.func86 (by kernel_rfl)
def af87:AFunc:=⟨8,2,[.tmp 4],
 (.seq (rg [op 4 (.mv (tm 4))] [0,1])
 (.seq (rg [oq 4 (.call (.fn 138) [(tm 0),(tm 1)]) [7]] [4])
 .ret))⟩
theorem good87:Good Tryz.prog (87,af87):=mkG Z0 [(0,[0,1]),(1,[4])] Tryz.func87 (by kernel_rfl)
def af88:AFunc:=⟨8,2,[.tmp 3],
 (.seq (rg [oq 2 (.box (tm 0)) [3]] [1,2])
 (.seq (rg [oq 4 (.addOff 0 (tm 2)) [7],ld 5 4,ld 6 1,op 3 (ar .eql (tm 5) (tm 6))] [3])
 .ret))⟩
theorem good88:Good Tryz.prog (88,af88):=mkG Z0 [(0,[1,2]),(1,[3])] Tryz.func88 (by kernel_rfl)
def lp89_0:ACode:=
 (.seq (rg [op 9 (ar .lss (tm 8) (tm 7))] [0,1,7,8,9])
 (.seq (.cond (tm 9) .skip
 (.exit 0))
 (.seq (.block 1 (.seq (rg [oq 5 (.mv (tm 8)) [10]] [0,1,5,7,8])
 (.seq (rg [oq 14 (.indexAddrS 1 (tm 0) (tm 5)) [16],ld 15 14,op 16 (ar .eql (tm 1) (tm 15))] [0,1,5,7,8,16])
 (.cond (tm 16) (.seq (rg [oq 4 (.mv (tm 5)) [17]] [4])
 .ret)
 .skip))))
 (rg [oq 8 (ar .add (tm 8) (zi 1)) [18]] [0,1,7,8]))))
def af89:AFunc:=⟨19,2,[.tmp 4],
 (.seq (rg [op 4 (.mv (tm 4))] [0,1])
 (.seq (.seq (rg [oq 7 (.len false (tm 0)) [8],op 8 (.mv (zi 0))] [0,1,7,8])
 (.block 0 (.loop lp89_0)))
 (.seq (rg [op 4 (.mv (zi (-1)))] [4])
 .ret)))⟩
theorem good89:Good Tryz.prog (89,af89):=mkG Z0 [(0,[0,1]),(1,[0,1,7,8]),(2,[0,1,7,8,9]),(3,[0,1,5,7,8]),(4,[0,1,5,7,8,16]),(5,[4]),(6,[0,1,7,8]),(7,[4])] Tryz.func89 (by kernel_rfl)
def lp90_0:ACode:=
 (.seq (rg [op 19 (ar .lss (tm 18) (tm 17))] [5,16,17,18,19])
 (.seq (.cond (tm 19) .skip
 (.exit 0))
 (.seq (.block 1 (.seq (rg [op 20 (.indexAddrS 14 (tm 16) (tm 18)),op 21 (.load true 14 (tm 20)),op 7 (.alloc z14),on (.store 14 (tm 7) (tm 21))] [5,7,16,17,18])
 (rg [oq 22 (.mv (tm 5)) [26],ao 23 0 7,ld 24 23,op 25 (.buildSlice 1 1 [(.str [])] [(0,(tm 24))]),op 5 (.append 1 16 (tm 22) (tm 25))] [5,16,17,18])))
 (rg [oq 18 (ar .add (tm 18) (zi 1)) [27]] [5,16,17,18]))))
def af90:AFunc:=⟨29,2,[.tmp 4],
 (.seq (rg [oq 2 (.box (tm 0)) [4]] [1,2])
 (.seq (.seq (rg [oq 9 (ar .lss (tm 1) (zi 0)) [9]] [1,2,9])
 (.cond (tm 9) (.seq (rg [oq 4 (.buildSlice 1 2 [(.str [])] [(0,(.lit (.str [112,114,105,110,116]))),(1,(.lit (.str [114,101,97,100])))]) [10]] [4])
 .ret)
 .skip))
 (.seq (rg [op 5 (.newrow 1)] [1,2,5])
 (.seq (.seq (rg [oq 11 (.addOff 1 (tm 2)) [18],ld 12 11,op 14 (.indexAddrS 2 (tm 12) (tm 1)),ao 15 1 14,ld 16 15,op 17 (.len false (tm 16)),op 18 (.mv (zi 0))] [5,16,17,18])
 (.block 0 (.loop lp90_0)))
 (.seq (rg [oq 4 (.mv (tm 5)) [28]] [4])
 .ret)))))⟩
theorem good90:Good Tryz.prog (90,af90):=mkG (fun t=>t==5) [(0,[1,2]),(1,[1,2,9]),(2,[4]),(3,[1,2,5]),(4,[5,16,17,18]),(5,[5,16,17,18,19]),(6,[5,7,16,17,18]),(7,[5,16,17,18]),(8,[5,16,17,18]),(9,[4])] Tryz.func90 (by kernel_rfl)
def af92:AFunc:=⟨8,2,[.tmp 4],
 (.seq (rg [op 4 (.mv (tm 4))] [0,1])
 (.seq (rg [oq 4 (.call (.fn 139) [(tm 0),(tm 1)]) [7]] [4])
 .ret))⟩
theorem good92:Good Tryz.prog (92,af92):=mkG Z0 [(0,[0,1]),(1,[4])] Tryz.func92 (by kernel_rfl)
def af93:AFunc:=⟨8,2,[.tmp 3],
 (.seq (rg [oq 2 (.box (tm 0)) [3]] [1,2])
 (.seq (rg [oq 4 (.addOff 0 (tm 2)) [7],ld 5 4,ld 6 1,op 3 (ar .eql (tm 5) (tm 6))] [3])
 .ret))⟩
theorem good93:Good Tryz.prog (93,af93):=mkG Z0 [(0,[1,2]),(1,[3])] Tryz.func93 (by kernel_rfl)
def lp94_0:ACode:=
 (.seq (rg [op 15 (ar .lss (tm 14) (tm 13))] [0,1,12,13,14,15])
 (.seq (.cond (tm 15) .skip
 (.exit 0))
 (.seq (.block 1 (.seq (rg [op 16 (.indexAddrS 8 (tm 12) (tm 14)),op 17 (.load true 8 (tm 16)),op 3 (.alloc z8a),on (.store 8 (tm 3) (tm 17))] [0,1,3,12,13,14])
 (rg [oq 19 (.addOff 1 (tm 3)) [21],op 20 (.load true 7 (tm 19)),op 21 (.call (.fn 96) [(tm 1),(tm 20)])] [0,1,12,13,14])))
 (rg [oq 14 (ar .add (tm 14) (zi 1)) [22]] [0,1,12,13,14]))))
def af94:AFunc:=⟨27,1,[],
 (.seq (rg [op 4 (.load true 10 (tm 0)),op 5 (.call (.fn 95) [(tm 4)]),op 6 (.call (.fn 59) [(tm 5)])] [0])
 (.seq (rg [oq 7 (.load true 10 (tm 0)) [8],op 1 (.call (.fn 55) [(tm 7)])] [0,1])
 (.seq (rg [oq 10 (.call (.fn 56) [(tm 1)]) [10]] [0,1])
 (.seq (.seq (rg [ao 11 2 0,ld 12 11,op 13 (.len false (tm 12)),op 14 (.mv (zi 0))] [0,1,12,13,14])
 (.block 0 (.loop lp94_0)))
 (rg [oq 24 (.addOff 3 (tm 0)) [26],op 25 (.load true 7 (tm 24)),op 26 (.call (.fn 96) [(tm 1),(tm 25)])] [])))))⟩
theorem good94:Good Tryz.prog (94,af94):=mkG Z0 [(0,[0]),(1,[0,1]),(2,[0,1]),(3,[0,1,12,13,14]),(4,[0,1,12,13,14,15]),(5,[0,1,3,12,13,14]),(6,[0,1,12,13,14]),(7,[0,1,12,13,14]),(8,[])] Tryz.func94 (by kernel_rfl)
def lp95_0:ACode:=
 (.seq (rg [op 33 (ar .lss (tm 32) (tm 31))] [1,30,31,32,33])
 (.seq (.cond (tm 33) .skip
 (.exit 0))
 (.seq (.block 1 (.seq (rg [op 34 (.indexAddrS 3 (tm 30) (tm 32)),op 35 (.load true 3 (tm 34)),op 4 (.alloc z3),on (.store 3 (tm 4) (tm 35))] [1,4,30,31,32])
 (.seq (rg [oq 36 (.load true 3 (tm 4)) [37],op 5 (.call (.fn 140) [(tm 36)])] [1,5,30,31,32])
 (.seq (rg [oq 39 (ar .neq (tm 5) (zi 0)) [39]] [1,5,30,31,32,39])
 (.cond (tm 39) (.seq (rg [oq 2 (.mv (tm 5)) [40]] [2])
 .ret)
 .skip)))))
 (rg [oq 32 (ar .add (tm 32) (zi 1)) [41]] [1,30,31,32]))))
def lp95_1:ACode:=
 (.seq (rg [op 46 (ar .lss (tm 45) (tm 44))] [1,43,44,45,46])
 (.seq (.cond (tm 46) .skip
 (.exit 2))
 (.seq (.block 3 (.seq (rg [op 47 (.indexAddrS 2 (tm 43) (tm 45)),op 48 (.load true 2 (tm 47)),op 7 (.alloc z2a),on (.store 2 (tm 7) (tm 48))] [1,7,43,44,45])
 (.seq (rg [oq 49 (.load true 2 (tm 7)) [50],op 8 (.call (.fn 141) [(tm 49)])] [1,8,43,44,45])
 (.seq (rg [oq 52 (ar .neq (tm 8) (zi 0)) [52]] [1,8,43,44,45,52])
 (.cond (tm 52) (.seq (rg [oq 2 (.mv (tm 8)) [53]] [2])
 .ret)
 .skip)))))
 (rg [oq 45 (ar .add (tm 45) (zi 1)) [54]] [1,43,44,45]))))
def lp95_2:ACode:=
 (.seq (rg [op 64 (ar .lss (tm 63) (tm 62))] [1,61,62,63,64])
 (.seq (.cond (tm 64) .skip
 (.exit 4))
 (.seq (.block 5 (.seq (rg [op 65 (.indexAddrS 8 (tm 61) (tm 63)),op 66 (.load true 8 (tm 65)),op 11 (.alloc z8a),on (.store 8 (tm 11) (tm 66))] [1,11,61,62,63])
 (.seq (.seq (rg [ao 67 0 11,ld 68 67,op 69 (.call (.fn 143) [(tm 68),(zi 1)]),op 70 (.not (tm 69))] [1,11,61,62,63,70])
 (.cond (tm 70) (.seq (rg [op 2 (.mv (zi 4))] [2])
 .ret)
 .skip))
 (.seq (rg [oq 71 (.addOff 1 (tm 11)) [73],op 72 (.load true 7 (tm 71)),op 12 (.call (.fn 131) [(tm 72)])] [1,12,61,62,63])
 (.seq (rg [oq 75 (ar .neq (tm 12) (zi 0)) [75]] [1,12,61,62,63,75])
 (.cond (tm 75) (.seq (rg [oq 2 (.mv (tm 12)) [76]] [2])
 .ret)
 .skip))))))
 (rg [oq 63 (ar .add (tm 63) (zi 1)) [77]] [1,61,62,63]))))
def af95:AFunc:=⟨81,1,[.tmp 2],
 (.seq (rg [oq 1 (.box (tm 0)) [2]] [1])
 (.seq (.seq (rg [oq 13 (.addOff 0 (tm 1)) [28],ld 14 13,op 15 (.len false (tm 14)),op 17 (ar .gtr (tm 15) (zi 12)),gf 18 17 (.addOff 1 (tm 1)) [],gf 19 17 (l1 (tm 18)) [],gf 20 17 (.len false (tm 19)) [],gf 21 17 (ar .gtr (tm 20) (zi 12)) [],op 23 (.pick (tm 17) (.lit (.bool true)) (tm 21)),gf 24 23 (.addOff 2 (tm 1)) [],gf 25 23 (l1 (tm 24)) [],gf 26 23 (.len false (tm 25)) [],gf 27 23 (ar .gtr (tm 26) (zi 60)) [],op 28 (.pick (tm 23) (.lit (.bool true)) (tm 27))] [1,28])
 (.cond (tm 28) (.seq (rg [op 2 (.mv (zi 3))] [2])
 .ret)
 .skip))
 (.seq (.seq (rg [ao 29 0 1,ld 30 29,op 31 (.len false (tm 30)),op 32 (.mv (zi 0))] [1,30,31,32])
 (.block 0 (.loop lp95_0)))
 (.seq (.seq (rg [ao 42 1 1,ld 43 42,op 44 (.len false (tm 43)),op 45 (.mv (zi 0))] [1,43,44,45])
 (.block 2 (.loop lp95_1)))
 (.seq (rg [op 55 (.build z2 [(0,1,(zi 3000))]),op 9 (.alloc z2),on (.store 2 (tm 9) (tm 55))] [1,9])
 (.seq (.seq (rg [op 56 (.load true 10 (tm 1)),op 57 (.call (.fn 142) [(tm 56)]),op 58 (.call (.fn 130) [(tm 9),(tm 57),(zi 1)]),op 59 (.not (tm 58))] [1,59])
 (.cond (tm 59) (.seq (rg [op 2 (.mv (zi 3))] [2])
 .ret)
 .skip))
 (.seq (.seq (rg [ao 60 2 1,ld 61 60,op 62 (.len false (tm 61)),op 63 (.mv (zi 0))] [1,61,62,63])
 (.block 4 (.loop lp95_2)))
 (.seq (rg [oq 78 (.addOff 3 (tm 1)) [80],op 79 (.load true 7 (tm 78)),op 2 (.call (.fn 131) [(tm 79)])] [2])
 .ret))))))))⟩
theorem good95:Good Tryz.prog (95,af95):=mkG Z0 [(0,[1]),(1,[1,28]),(2,[2]),(3,[1,30,31,32]),(4,[1,30,31,32,33]),(5,[1,4,30,31,32]),(6,[1,5,30,31,32]),(7,[1,5,30,31,32,39]),(8,[2]),(9,[1,30,31,32]),(10,[1,43,44,45]),(11,[1,43,44,45,46]),(12,[1,7,43,44,45]),(13,[1,8,43,44,45]),(14,[1,8,43,44,45,52]),(15,[2]),(16,[1,43,44,45]),(17,[1,9]),(18,[1,59]),(19,[2]),(20,[1,61,62,63]),(21,[1,61,62,63,64]),(22,[1,11,61,62,63]),(23,[1,11,61,62,63,70]),(24,[2]),(25,[1,12,61,62,63]),(26,[1,12,61,62,63,75]),(27,[2]),(28,[1,61,62,63]),(29,[2])] Tryz.func95 (by kernel_rfl)
def as96_0:ACode:=
 (rg [op 5 (.alloc z7a),on (.store 7 (tm 5) (tm 28))] [4,5])
def bd96_1:ACode:=
 (.block 1 (.seq (rg [oq 30 (l1 (tm 4)) [35],ao 31 0 5,ld 32 31,op 29 (.lookup 1 .nilfunc true (tm 30) (tm 32)),op 34 (.extract (tm 29) 0),op 35 (.extract (tm 29) 1),op 6 (.mv (tm 34)),op 7 (.mv (tm 35))] [5,6,7])
 (.seq (rg [op 36 (.mv (tm 7))] [5,6,36])
 (.cond (tm 36) (rg [oq 38 (.load true 7 (tm 5)) [39],op 39 (.call (.val (tm 6)) [(tm 38)])] [])
 .skip))))
def af96:AFunc:=⟨40,2,[],
 (.seq (rg [op 3 (.box (tm 1))] [0,3,28])
 (.seq (rg [oq 8 (.mkMap) [25],op 10 (.mkFunc 144 [(tm 0)] []),on (.mapUpdate 1 (tm 8) (zi 10) (tm 10)),op 12 (.mkFunc 145 [(tm 0)] []),on (.mapUpdate 1 (tm 8) (zi 11) (tm 12)),op 14 (.mkFunc 146 [(tm 0)] []),on (.mapUpdate 1 (tm 8) (zi 12) (tm 14)),op 16 (.mkFunc 146 [(tm 0)] []),on (.mapUpdate 1 (tm 8) (zi 13) (tm 16)),op 18 (.mkFunc 147 [(tm 0)] []),on (.mapUpdate 1 (tm 8) (zi 14) (tm 18)),op 20 (.mkFunc 147 [(tm 0)] []),on (.mapUpdate 1 (tm 8) (zi 15) (tm 20)),op 22 (.mkFunc 148 [(tm 0)] []),on (.mapUpdate 1 (tm 8) (zi 16) (tm 22)),op 24 (.mkFunc 149 [(tm 0)] []),on (.mapUpdate 1 (tm 8) (zi 17) (tm 24)),op 4 (.alloc [.nilmap]),on (.store 1 (tm 4) (tm 8))] [3,4,28])
 (.seq (rg [op 26 (.load true 7 (tm 3)),op 27 (.call (.fn 150) [(tm 26)])] [4,27,28])
 (.block 0 (.rangeFunc (tm 27) [28] as96_0 bd96_1)))))⟩
theorem good96:Good Tryz.prog (96,af96):=mkG Z0 [(0,[0,3,28]),(1,[3,4,28]),(2,[4,27,28]),(3,[4,5]),(4,[5,6,7]),(5,[5,6,36]),(6,[])] Tryz.func96 (by kernel_rfl)
def af98:AFunc:=⟨13,2,[],
 (.seq (rg [oq 3 (.load true 10 (tm 0)) [4],op 2 (.call (.fn 55) [(tm 3)])] [1,2])
 (.seq (rg [oq 6 (.call (.fn 56) [(tm 2)]) [6]] [1,2])
 (.seq (rg [op 7 (.load true 7 (tm 1)),op 8 (.call (.fn 80) [(tm 7)]),op 9 (.call (.fn 59) [(tm 8)])] [1,2])
 (rg [oq 11 (.load true 7 (tm 1)) [12],op 12 (.call (.fn 96) [(tm 2),(tm 11)])] []))))⟩
theorem good98:Good Tryz.prog (98,af98):=mkG Z0 [(0,[1,2]),(1,[1,2]),(2,[1,2]),(3,[])] Tryz.func98 (by kernel_rfl)
def af100:AFunc:=⟨6,2,[],
 (dr [oq 2 (.load true 10 (tm 0)) [0],oq 3 (.call (.fn 55) [(tm 2)]) [2],oq 4 (.load true 6 (tm 1)) [1],oq 5 (.call (.fn 65) [(tm 3),(tm 4)]) [3,4]] [0,1,0,7] [])⟩
theorem good100:Good Tryz.prog (100,af100):=mkG Z0 [(0,[])] Tryz.func100 (by kernel_rfl)
def lp101_0:ACode:=
 (.seq (.seq (rg [oq 25 (.addOff 3 (tm 3)) [28],ld 26 25,op 27 (.len false (tm 26)),op 28 (ar .lss (tm 9) (tm 27))] [1,2,3,6,8,9,28])
 (.cond (tm 28) .skip
 (.exit 0)))
 (.seq (.block 1 (rg [oq 31 (.mv (tm 8)) [41],ao 32 3 3,ld 33 32,op 35 (.indexAddrS 6 (tm 33) (tm 9)),op 36 (.load true 6 (tm 35)),op 39 (.call (.fn 101) [(tm 36),(tm 1),(tm 2)]),op 40 (.buildSlice 6 1 z6 [(0,(tm 39))]),op 8 (.append 6 88 (tm 31) (tm 40))] [1,2,3,6,8,9]))
 (rg [oq 29 (.mv (tm 9)) [30],op 9 (ar .add (tm 29) (zi 1))] [1,2,3,6,8,9])))
def af101:AFunc:=⟨45,3,[.cell 6 true 6],
 (.seq (rg [op 3 (.box (tm 0)),op 6 (.alloc z6)] [1,2,3,6])
 (.seq (.seq (rg [ao 10 0 3,ld 11 10,op 12 (ar .eql (tm 11) (zi 1))] [1,2,3,6,12])
 (.cond (tm 12) (.seq (rg [oq 14 (.addOff 2 (tm 3)) [16],ld 15 14,op 7 (.call (.fn 152) [(tm 1),(tm 15)])] [2,3,6,7])
 (.seq (.seq (rg [oq 18 (ar .geq (tm 7) (zi 0)) [18]] [2,3,6,7,18])
 (.cond (tm 18) (.seq (rg [oq 21 (.indexAddrS 6 (tm 2) (tm 7)) [22],op 22 (.load true 6 (tm 21)),on (.store 6 (tm 6) (tm 22))] [6])
 .ret)
 .skip))
 (.seq (rg [op 23 (.load true 6 (tm 3)),on (.store 6 (tm 6) (tm 23))] [6])
 .ret)))
 .skip))
 (.seq (rg [op 8 (.newrow 6)] [1,2,3,6,8])
 (.seq (.seq (rg [op 9 (.mv (zi 0))] [1,2,3,6,8,9])
 (.block 0 (.loop lp101_0)))
 (.seq (rg [oq 43 (.addOff 3 (tm 3)) [43],on (.store 1 (tm 43) (tm 8))] [3,6])
 (.seq (rg [op 44 (.load true 6 (tm 3)),on (.store 6 (tm 6) (tm 44))] [6])
 .ret))))))⟩
theorem good101:Good Tryz.prog (101,af101):=mkG (fun t=>t==8) [(0,[1,2,3,6]),(1,[1,2,3,6,12]),(2,[2,3,6,7]),(3,[2,3,6,7,18]),(4,[6]),(5,[6]),(6,[1,2,3,6,8]),(7,[1,2,3,6,8,9]),(8,[1,2,3,6,8,9,28]),(10,[1,2,3,6,8,9]),(9,[1,2,3,6,8,9]),(11,[3,6]),(12,[6])] Tryz.func101 (by kernel_rfl)
def lp108_0:ACode:=
 (.seq (.seq (rg [oq 13 (.len false (tm 0)) [14],op 14 (ar .lss (tm 5) (tm 13))] [0,1,5,14])
 (.cond (tm 14) .skip
 (.exit 0)))
 (.seq (.block 1 (.seq (dr [oq 17 (.mv (tm 0)) [0],oq 18 (.mv (tm 5)) [5],oq 19 (.indexAddrS 1 (tm 17) (tm 18)) [17,18],lq 20 19,oq 21 (.mv (tm 1)) [1],oq 22 (.mv (tm 5)) [5],oq 23 (.indexAddrS 1 (tm 21) (tm 22)) [21,22],lq 24 23,oq 25 (ar .neq (tm 20) (tm 24)) [20,24]] [0,0,3,7,0,0,48,112,255] [0,1,5,25])
 (.cond (tm 25) (.seq (rg [op 4 (.mv (.lit (.bool false)))] [4])
 .ret)
 .skip)))
 (rg [oq 15 (.mv (tm 5)) [16],op 5 (ar .add (tm 15) (zi 1))] [0,1,5])))
def af108:AFunc:=⟨26,2,[.tmp 4],
 (.seq (rg [op 4 (.mv (tm 4))] [0,1])
 (.seq (.seq (rg [oq 7 (.len false (tm 0)) [10],op 9 (.len false (tm 1)),op 10 (ar .neq (tm 7) (tm 9))] [0,1,10])
 (.cond (tm 10) (.seq (rg [op 4 (.mv (.lit (.bool false)))] [4])
 .ret)
 .skip))
 (.seq (.seq (rg [op 5 (.mv (zi 0))] [0,1,5])
 (.block 0 (.loop lp108_0)))
 (.seq (rg [op 4 (.mv (.lit (.bool true)))] [4])
 .ret))))⟩
theorem good108:Good Tryz.prog (108,af108):=mkG Z0 [(0,[0,1]),(1,[0,1,10]),(2,[4]),(3,[0,1,5]),(4,[0,1,5,14]),(6,[0,1,5,25]),(7,[4]),(5,[0,1,5]),(8,[4])] Tryz.func108 (by kernel_rfl)
def af110:AFunc:=⟨18,2,[],
 (.seq (.seq (rg [oq 5 (.nilCheck (tm 0)) [8],ld 6 5,op 8 (.call (.fn 111) [(tm 6),(tm 1)])] [0,1,8])
 (.cond (tm 8) (rg [op 9 (.call (.fn 58) [(zi 5)])] [0,1])
 .skip))
 (rg [oq 12 (.nilCheck (tm 0)) [17],ld 13 12,op 15 (.buildSlice 1 1 [(.str [])] [(0,(tm 1))]),op 16 (.append 1 16 (tm 13) (tm 15)),op 17 (.nilCheck (tm 0)),on (.store 1 (tm 17) (tm 16))] []))⟩
theorem good110:Good Tryz.prog (110,af110):=mkG Z0 [(0,[0,1,8]),(1,[0,1]),(2,[])] Tryz.func110 (by kernel_rfl)
def af111:AFunc:=⟨9,2,[.tmp 4],
 (.seq (rg [op 4 (.mv (tm 4))] [0,1])
 (.seq (rg [oq 7 (.call (.fn 89) [(tm 0),(tm 1)]) [8],op 4 (ar .geq (tm 7) (zi 0))] [4])
 .ret))⟩
theorem good111:Good Tryz.prog (111,af111):=mkG Z0 [(0,[0,1]),(1,[4])] Tryz.func111 (by kernel_rfl)
def lp112_0:ACode:=
 (.seq (rg [op 54 (ar .lss (tm 53) (tm 52))] [0,2,4,51,52,53,54])
 (.seq (.cond (tm 54) .skip
 (.exit 1))
 (.seq (.block 2 (.seq (rg [op 55 (.indexAddrS 2 (tm 51) (tm 53)),op 56 (.load true 2 (tm 55)),op 8 (.alloc [(.str []),(.int .i64 0)]),on (.store 2 (tm 8) (tm 56))] [0,2,4,8,51,52,53])
 (.seq (dr [oq 58 (.mv (tm 0)) [0],oq 59 (.nilCheck (tm 58)) [58],aq 60 0 59,oq 61 (.load true 10 (tm 60)) [60],aq 62 0 8,lq 63 62,oq 64 (.call (.fn 34) [(tm 61),(tm 63)]) [61,63],oq 57 (.mv (tm 64)) [64],oq 65 (.extract (tm 57) 0) [57],oq 66 (.extract (tm 57) 1) [57],oq 9 (.mv (tm 65)) [65],oq 10 (.mv (tm 66)) [66]] [0,1,3,7,0,16,63,127,255,255,511,2047] [0,2,4,10,51,52,53])
 (rg [oq 68 (.call (.fn 59) [(tm 10)]) [68]] [0,2,4,51,52,53]))))
 (rg [oq 53 (ar .add (tm 53) (zi 1)) [69]] [0,2,4,51,52,53]))))
def lp112_1:ACode:=
 (.seq (rg [op 74 (ar .lss (tm 73) (tm 72))] [0,2,71,72,73,74])
 (.seq (.cond (tm 74) .skip
 (.exit 3))
 (.seq (.block 4 (.seq (rg [op 75 (.indexAddrS 6 (tm 71) (tm 73)),op 76 (.load true 6 (tm 75)),op 12 (.alloc z6),on (.store 6 (tm 12) (tm 76))] [0,2,12,71,72,73])
 (rg [oq 78 (.load true 6 (tm 12)) [80],op 80 (.call (.fn 112) [(tm 0),(tm 78),(tm 2)])] [0,2,71,72,73])))
 (rg [oq 73 (ar .add (tm 73) (zi 1)) [81]] [0,2,71,72,73]))))
def af112:AFunc:=⟨82,3,[],
 (.seq (rg [op 4 (.box (tm 1))] [0,2,4])
 (.seq (.seq (rg [ao 13 0 4,ld 14 13] [0,2,4,14])
 (.block 0 (.seq (rg [oq 15 (ar .eql (tm 14) (zi 1)) [16]] [0,2,4,14,15])
 (.cond (tm 15) (.seq (rg [oq 18 (.addOff 2 (tm 4)) [21],ld 19 18,op 20 (.call (.fn 111) [(tm 2),(tm 19)]),op 21 (.not (tm 20))] [0,2,4,21])
 (.cond (tm 21) (rg [op 22 (.call (.fn 58) [(zi 6)])] [0,2,4])
 .skip))
 (.seq (rg [oq 23 (ar .eql (tm 14) (zi 6)) [24]] [0,2,4,14,23])
 (.cond (tm 23) (.seq (rg [oq 26 (.addOff 2 (tm 4)) [28],ld 27 26,op 6 (.call (.fn 117) [(tm 0),(tm 27)])] [0,2,4,6])
 (.seq (.seq (rg [oq 30 (ar .lss (tm 6) (zi 0)) [30]] [0,2,4,6,30])
 (.cond (tm 30) (rg [op 31 (.call (.fn 58) [(zi 6)])] [0,2,4,6])
 .skip))
 (.seq (dr [oq 32 (.mv (tm 0)) [0],oq 33 (.nilCheck (tm 32)) [32],aq 34 0 33,aq 35 0 34,lq 36 35,oq 37 (.mv (tm 6)) [6],oq 38 (.indexAddrS 3 (tm 36) (tm 37)) [36,37],aq 39 1 38,lq 40 39,oq 41 (.len false (tm 40)) [40],aq 42 3 4,lq 43 42,oq 44 (.len false (tm 43)) [43],oq 45 (ar .neq (tm 41) (tm 44)) [41,44]] [0,1,3,7,15,0,63,127,255,511,0,1024,3072,8191] [0,2,4,45])
 (.cond (tm 45) (rg [op 46 (.call (.fn 58) [(zi 7)])] [0,2,4])
 .skip))))
 (.seq (rg [oq 47 (ar .eql (tm 14) (zi 5)) [48]] [0,2,4,47])
 (.cond (tm 47) (.seq (rg [ao 49 4 4,ao 50 0 49,ld 51 50,op 52 (.len false (tm 51)),op 53 (.mv (zi 0))] [0,2,4,51,52,53])
 (.block 1 (.loop lp112_0)))
 .skip))))))))
 (.seq (rg [ao 70 3 4,ld 71 70,op 72 (.len false (tm 71)),op 73 (.mv (zi 0))] [0,2,71,72,73])
 (.block 3 (.loop lp112_1)))))⟩
theorem good112:Good Tryz.prog (112,af112):=mkG Z0 [(0,[0,2,4]),(1,[0,2,4,14]),(2,[0,2,4,14,15]),(5,[0,2,4,14,23]),(11,[0,2,4,47]),(12,[0,2,4,51,52,53]),(13,[0,2,4,51,52,53,54]),(14,[0,2,4,8,51,52,53]),(15,[0,2,4,10,51,52,53]),(16,[0,2,4,51,52,53]),(17,[0,2,4,51,52,53]),(6,[0,2,4,6]),(7,[0,2,4,6,30]),(8,[0,2,4,6]),(9,[0,2,4,45]),(10,[0,2,4]),(3,[0,2,4,21]),(4,[0,2,4]),(18,[0,2,71,72,73]),(19,[0,2,71,72,73,74]),(20,[0,2,12,71,72,73]),(21,[0,2,71,72,73]),(22,[0,2,71,72,73])] Tryz.func112 (by kernel_rfl)
def af113:AFunc:=⟨35,3,[.tmp 6],
 (.seq (rg [oq 3 (.box (tm 0)) [6],op 4 (.box (tm 1)),op 5 (.box (tm 2))] [3,4,5])
 (.seq (rg [ld 7 3,op 8 (.nilCheck (tm 7)),ao 9 0 8,ld 10 9,op 11 (ar .sub (tm 10) (zi 1)),op 12 (.nilCheck (tm 7)),ao 13 0 12,on (.store 1 (tm 13) (tm 11))] [3,4,5])
 (.seq (.seq (rg [oq 14 (l1 (tm 3)) [29],op 15 (.nilCheck (tm 14)),ao 16 0 15,ld 17 16,op 19 (ar .lss (tm 17) (zi 0)),gf 20 19 (l1 (tm 5)) [],gf 21 19 (ar .gtr (tm 20) (zi 200)) [],op 23 (.pick (tm 19) (.lit (.bool true)) (tm 21)),gf 24 23 (.addOff 4 (tm 4)) [],gf 25 23 (.addOff 0 (tm 24)) [],gf 26 23 (l1 (tm 25)) [],gf 27 23 (.len false (tm 26)) [],gf 28 23 (ar .gtr (tm 27) (zi 24)) [],op 29 (.pick (tm 23) (.lit (.bool true)) (tm 28))] [3,4,5,29])
 (.cond (tm 29) (.seq (rg [op 6 (.mv (.lit (.bool false)))] [6])
 .ret)
 .skip))
 (.seq (rg [oq 30 (.addOff 3 (tm 4)) [34],ld 31 30,op 32 (.mkFunc 162 [] [(tm 3),(tm 5)]),op 33 (.call (.fn 161) [(tm 31),(tm 32)]),op 6 (.not (tm 33))] [6])
 .ret))))⟩
theorem good113:Good Tryz.prog (113,af113):=mkG Z0 [(0,[3,4,5]),(1,[3,4,5]),(2,[3,4,5,29]),(3,[6]),(4,[6])] Tryz.func113 (by kernel_rfl)
def lp114_0:ACode:=
 (.seq (.seq (rg [oq 8 (.addOff 3 (tm 1)) [15],ld 9 8,op 10 (.len false (tm 9)),op 12 (ar .lss (tm 4) (tm 10)),gt 13 12 (.mv (tm 3)) [],gt 14 12 (ar .eql (tm 13) (zi 0)) [],op 15 (.pick (tm 12) (tm 14) (.lit (.bool false)))] [1,3,4,15])
 (.cond (tm 15) .skip
 (.exit 0)))
 (.seq (.block 1 (rg [oq 18 (.addOff 3 (tm 1)) [23],ld 19 18,op 21 (.indexAddrS 6 (tm 19) (tm 4)),op 22 (.load true 6 (tm 21)),op 3 (.call (.fn 114) [(tm 22)])] [1,3,4]))
 (rg [oq 16 (.mv (tm 4)) [17],op 4 (ar .add (tm 16) (zi 1))] [1,3,4])))
def af114:AFunc:=⟨25,1,[.tmp 2],
 (.seq (rg [oq 1 (.box (tm 0)) [2]] [1])
 (.seq (rg [oq 5 (.load true 6 (tm 1)) [6],op 3 (.call (.fn 163) [(tm 5)])] [1,3])
 (.seq (.seq (rg [op 4 (.mv (zi 0))] [1,3,4])
 (.block 0 (.loop lp114_0)))
 (.seq (rg [oq 2 (.mv (tm 3)) [24]] [2])
 .ret))))⟩
theorem good114:Good Tryz.prog (114,af114):=mkG Z0 [(0,[1]),(1,[1,3]),(2,[1,3,4]),(3,[1,3,4,15]),(5,[1,3,4]),(4,[1,3,4]),(6,[2])] Tryz.func114 (by kernel_rfl)
def lp115_0:ACode:=
 (.seq (.seq (rg [oq 21 (.addOff 0 (tm 2)) [24],ld 22 21,op 23 (.len false (tm 22)),op 24 (ar .lss (tm 5) (tm 23))] [2,3,5,24])
 (.cond (tm 24) .skip
 (.exit 0)))
 (.seq (.block 1 (.seq (dr [aq 27 0 2,lq 28 27,oq 29 (.mv (tm 5)) [5],oq 30 (.indexAddrS 2 (tm 28) (tm 29)) [28,29],oq 31 (.load true 2 (tm 30)) [30],aq 32 0 3,lq 33 32,oq 34 (.mv (tm 5)) [5],oq 35 (.indexAddrS 2 (tm 33) (tm 34)) [33,34],oq 36 (.load true 2 (tm 35)) [35],oq 37 (.arith .neq (.agg [2,1]) (tm 31) (tm 36)) [31,36]] [0,1,0,7,15,0,32,0,224,480,1023] [2,3,5,37])
 (.cond (tm 37) (.seq (rg [op 4 (.mv (.lit (.bool false)))] [4])
 .ret)
 .skip)))
 (rg [oq 25 (.mv (tm 5)) [26],op 5 (ar .add (tm 25) (zi 1))] [2,3,5])))
def af115:AFunc:=⟨38,2,[.tmp 4],
 (.seq (rg [oq 2 (.box (tm 0)) [4],op 3 (.box (tm 1))] [2,3])
 (.seq (.seq (rg [oq 6 (.addOff 1 (tm 2)) [19],ld 7 6,ao 8 1 3,ld 9 8,op 11 (ar .neq (tm 7) (tm 9)),gf 12 11 (.addOff 0 (tm 2)) [],gf 13 11 (l1 (tm 12)) [],gf 14 11 (.len false (tm 13)) [],gf 15 11 (.addOff 0 (tm 3)) [],gf 16 11 (l1 (tm 15)) [],gf 17 11 (.len false (tm 16)) [],gf 18 11 (ar .neq (tm 14) (tm 17)) [],op 19 (.pick (tm 11) (.lit (.bool true)) (tm 18))] [2,3,19])
 (.cond (tm 19) (.seq (rg [op 4 (.mv (.lit (.bool false)))] [4])
 .ret)
 .skip))
 (.seq (.seq (rg [op 5 (.mv (zi 0))] [2,3,5])
 (.block 0 (.loop lp115_0)))
 (.seq (rg [op 4 (.mv (.lit (.bool true)))] [4])
 .ret))))⟩
theorem good115:Good Tryz.prog (115,af115):=mkG Z0 [(0,[2,3]),(1,[2,3,19]),(2,[4]),(3,[2,3,5]),(4,[2,3,5,24]),(6,[2,3,5,37]),(7,[4]),(5,[2,3,5]),(8,[4])] Tryz.func115 (by kernel_rfl)
def lp116_0:ACode:=
 (.seq (rg [op 26 (ar .lss (tm 25) (tm 24))] [1,23,24,25,26])
 (.seq (.cond (tm 26) .skip
 (.exit 0))
 (.seq (.block 1 (.seq (rg [op 27 (.indexAddrS 2 (tm 23) (tm 25)),op 28 (.load true 2 (tm 27)),op 4 (.alloc [(.str []),(.int .i64 0)]),on (.store 2 (tm 4) (tm 28))] [1,4,23,24,25])
 (.seq (rg [ao 29 1 4,ld 30 29,op 31 (ar .neq (tm 30) (zi 0))] [1,23,24,25,31])
 (.cond (tm 31) (.seq (rg [op 2 (.mv (.lit (.bool false)))] [2])
 .ret)
 .skip))))
 (rg [oq 25 (ar .add (tm 25) (zi 1)) [32]] [1,23,24,25]))))
def lp116_1:ACode:=
 (.seq (rg [op 37 (ar .lss (tm 36) (tm 35))] [34,35,36,37])
 (.seq (.cond (tm 37) .skip
 (.exit 2))
 (.seq (.block 3 (.seq (rg [op 38 (.indexAddrS 6 (tm 34) (tm 36)),op 39 (.load true 6 (tm 38)),op 6 (.alloc z6),on (.store 6 (tm 6) (tm 39))] [6,34,35,36])
 (.seq (rg [op 40 (.load true 6 (tm 6)),op 41 (.call (.fn 116) [(tm 40)]),op 42 (.not (tm 41))] [34,35,36,42])
 (.cond (tm 42) (.seq (rg [op 2 (.mv (.lit (.bool false)))] [2])
 .ret)
 .skip))))
 (rg [oq 36 (ar .add (tm 36) (zi 1)) [43]] [34,35,36]))))
def af116:AFunc:=⟨44,1,[.tmp 2],
 (.seq (rg [oq 1 (.box (tm 0)) [2]] [1])
 (.seq (.seq (rg [oq 7 (.addOff 0 (tm 1)) [20],ld 8 7,op 10 (ar .eql (tm 8) (zi 0)),gf 11 10 (.addOff 0 (tm 1)) [],gf 12 10 (l1 (tm 11)) [],gf 13 10 (ar .eql (tm 12) (zi 5)) [],gf 14 10 (.mv (tm 13)) [],gt 15 14 (.addOff 4 (tm 1)) [],gt 16 14 (.addOff 1 (tm 15)) [],gt 17 14 (l1 (tm 16)) [],gt 18 14 (ar .neq (tm 17) (zi (-1))) [],gf 19 10 (.pick (tm 14) (tm 18) (.lit (.bool false))) [],op 20 (.pick (tm 10) (.lit (.bool true)) (tm 19))] [1,20])
 (.cond (tm 20) (.seq (rg [op 2 (.mv (.lit (.bool false)))] [2])
 .ret)
 .skip))
 (.seq (.seq (rg [ao 21 4 1,ao 22 0 21,ld 23 22,op 24 (.len false (tm 23)),op 25 (.mv (zi 0))] [1,23,24,25])
 (.block 0 (.loop lp116_0)))
 (.seq (.seq (rg [ao 33 3 1,ld 34 33,op 35 (.len false (tm 34)),op 36 (.mv (zi 0))] [34,35,36])
 (.block 2 (.loop lp116_1)))
 (.seq (rg [op 2 (.mv (.lit (.bool true)))] [2])
 .ret)))))⟩
theorem good116:Good Tryz.prog (116,af116):=mkG Z0 [(0,[1]),(1,[1,20]),(2,[2]),(3,[1,23,24,25]),(4,[1,23,24,25,26]),(5,[1,4,23,24,25]),(6,[1,23,24,25,31]),(7,[2]),(8,[1,23,24,25]),(9,[34,35,36]),(10,[34,35,36,37]),(11,[6,34,35,36]),(12,[34,35,36,42]),(13,[2]),(14,[34,35,36]),(15,[2])] Tryz.func116 (by kernel_rfl)
def af117:AFunc:=⟨12,2,[.tmp 4],
 (.seq (rg [oq 3 (.box (tm 1)) [4]] [0,3])
 (.seq (rg [oq 6 (.nilCheck (tm 0)) [11],ao 7 0 6,ao 8 0 7,ld 9 8,op 10 (.mkFunc 165 [] [(tm 3)]),op 4 (.call (.fn 164) [(tm 9),(tm 10)])] [4])
 .ret))⟩
theorem good117:Good Tryz.prog (117,af117):=mkG Z0 [(0,[0,3]),(1,[4])] Tryz.func117 (by kernel_rfl)
def lp118_0:ACode:=
 (.seq (rg [op 21 (ar .lss (tm 20) (tm 19))] [0,2,4,18,19,20,21])
 (.seq (.cond (tm 21) .skip
 (.exit 0))
 (.seq (.block 1 (.seq (rg [op 22 (.indexAddrS 6 (tm 18) (tm 20)),op 23 (.load true 6 (tm 22)),op 8 (.alloc z6),on (.store 6 (tm 8) (tm 23))] [0,2,4,8,18,19,20])
 (.seq (rg [oq 25 (.load true 6 (tm 8)) [27],op 27 (.call (.fn 118) [(tm 0),(tm 25),(tm 2)])] [0,2,4,18,19,20,27])
 (.cond (tm 27) (.seq (rg [op 6 (.mv (.lit (.bool true)))] [6])
 .ret)
 .skip))))
 (rg [oq 20 (ar .add (tm 20) (zi 1)) [28]] [0,2,4,18,19,20]))))
def lp118_1:ACode:=
 (.seq (rg [op 64 (ar .lss (tm 63) (tm 62))] [0,2,54,55,56,61,62,63,64])
 (.seq (.cond (tm 64) .skip
 (.exit 4))
 (.seq (.block 5 (.seq (rg [op 65 (.indexAddrS 6 (tm 61) (tm 63)),op 66 (.load true 6 (tm 65)),op 13 (.alloc z6),on (.store 6 (tm 13) (tm 66))] [0,2,13,54,55,56,61,62,63])
 (.seq (rg [oq 68 (.load true 6 (tm 13)) [70],op 70 (.call (.fn 118) [(tm 0),(tm 68),(tm 2)])] [0,2,54,55,56,61,62,63,70])
 (.cond (tm 70) (.seq (rg [op 6 (.mv (.lit (.bool true)))] [6])
 .ret)
 .skip))))
 (rg [oq 63 (ar .add (tm 63) (zi 1)) [71]] [0,2,54,55,56,61,62,63]))))
def lp118_2:ACode:=
 (.seq (rg [op 57 (ar .lss (tm 56) (tm 55))] [0,2,54,55,56,57])
 (.seq (.cond (tm 57) .skip
 (.exit 2))
 (.seq (.block 3 (.seq (rg [op 58 (.indexAddrS 2 (tm 54) (tm 56)),op 59 (.load true 2 (tm 58)),op 11 (.alloc z2a),on (.store 2 (tm 11) (tm 59))] [0,2,11,54,55,56])
 (.seq (rg [ao 60 1 11,ld 61 60,op 62 (.len false (tm 61)),op 63 (.mv (zi 0))] [0,2,54,55,56,61,62,63])
 (.block 4 (.loop lp118_1)))))
 (rg [oq 56 (ar .add (tm 56) (zi 1)) [72]] [0,2,54,55,56]))))
def af118:AFunc:=⟨73,3,[.tmp 6],
 (.seq (rg [oq 4 (.box (tm 1)) [6]] [0,2,4])
 (.seq (.seq (rg [ao 14 0 4,ld 15 14,op 16 (ar .eql (tm 15) (zi 5))] [0,2,4,16])
 (.cond (tm 16) (.seq (rg [op 6 (.mv (.lit (.bool true)))] [6])
 .ret)
 .skip))
 (.seq (.seq (rg [ao 17 3 4,ld 18 17,op 19 (.len false (tm 18)),op 20 (.mv (zi 0))] [0,2,4,18,19,20])
 (.block 0 (.loop lp118_0)))
 (.seq (.seq (rg [ao 29 0 4,ld 30 29,op 31 (ar .neq (tm 30) (zi 6))] [0,2,4,31])
 (.cond (tm 31) (.seq (rg [op 6 (.mv (.lit (.bool false)))] [6])
 .ret)
 .skip))
 (.seq (rg [oq 33 (.addOff 2 (tm 4)) [35],ld 34 33,op 9 (.call (.fn 117) [(tm 0),(tm 34)])] [0,2,9])
 (.seq (.seq (rg [oq 38 (.nilCheck (tm 2)) [41],op 39 (.indexAddrA 12 1 (tm 38) (tm 9)),ld 40 39,op 41 (ar .eql (tm 40) (zi 1))] [0,2,9,41])
 (.cond (tm 41) (.seq (rg [op 6 (.mv (.lit (.bool false)))] [6])
 .ret)
 .skip))
 (.seq (rg [oq 44 (.nilCheck (tm 2)) [45],op 45 (.indexAddrA 12 1 (tm 44) (tm 9)),on (.store 1 (tm 45) (zi 1))] [0,2,9])
 (.seq (.seq (rg [oq 47 (.nilCheck (tm 0)) [56],ao 48 0 47,ao 49 0 48,ld 50 49,op 52 (.indexAddrS 3 (tm 50) (tm 9)),ao 53 2 52,ld 54 53,op 55 (.len false (tm 54)),op 56 (.mv (zi 0))] [0,2,54,55,56])
 (.block 2 (.loop lp118_2)))
 (.seq (rg [op 6 (.mv (.lit (.bool false)))] [6])
 .ret)))))))))⟩
theorem good118:Good Tryz.prog (118,af118):=mkG Z0 [(0,[0,2,4]),(1,[0,2,4,16]),(2,[6]),(3,[0,2,4,18,19,20]),(4,[0,2,4,18,19,20,21]),(5,[0,2,4,8,18,19,20]),(6,[0,2,4,18,19,20,27]),(7,[6]),(8,[0,2,4,18,19,20]),(9,[0,2,4,31]),(10,[6]),(11,[0,2,9]),(12,[0,2,9,41]),(13,[6]),(14,[0,2,9]),(15,[0,2,54,55,56]),(16,[0,2,54,55,56,57]),(17,[0,2,11,54,55,56]),(18,[0,2,54,55,56,61,62,63]),(19,[0,2,54,55,56,61,62,63,64]),(20,[0,2,13,54,55,56,61,62,63]),(21,[0,2,54,55,56,61,62,63,70]),(22,[6]),(23,[0,2,54,55,56,61,62,63]),(24,[0,2,54,55,56]),(25,[6])] Tryz.func118 (by kernel_rfl)
def lp119_0:ACode:=
 (.seq (rg [op 37 (ar .lss (tm 36) (tm 35))] [0,2,8,9,34,35,36,37])
 (.seq (.cond (tm 37) .skip
 (.exit 1))
 (.seq (.block 2 (.seq (rg [op 38 (.indexAddrS 2 (tm 34) (tm 36)),op 39 (.load true 2 (tm 38)),op 11 (.alloc z2a),on (.store 2 (tm 11) (tm 39))] [0,2,8,9,11,34,35,36])
 (rg [oq 40 (.mv (tm 9)) [48],ao 42 1 11,ld 43 42,op 46 (ar .sub (tm 2) (zi 1)),op 47 (.call (.fn 166) [(tm 0),(tm 43),(tm 8),(tm 46)]),op 9 (ar .add (tm 40) (tm 47))] [0,2,8,9,34,35,36])))
 (rg [oq 36 (ar .add (tm 36) (zi 1)) [49]] [0,2,8,9,34,35,36]))))
def af119:AFunc:=⟨51,3,[.tmp 6],
 (.seq (rg [oq 4 (.box (tm 1)) [6]] [0,2,4])
 (.seq (rg [op 12 (.load true 7 (tm 4)),op 13 (.call (.fn 124) [(tm 12)]),on (.store 7 (tm 4) (tm 13))] [0,2,4])
 (.seq (.seq (rg [ao 14 0 4,ao 15 0 14,ld 16 15,op 17 (ar .neq (tm 16) (zi 6))] [0,2,4,17])
 (.cond (tm 17) (.seq (.block 0 (.seq (rg [oq 18 (ar .neq (tm 2) (zi 1)) [20]] [4,18])
 (.cond (tm 18) (.seq (rg [op 6 (.mv (zi 0))] [6])
 .ret)
 (.seq (rg [oq 22 (.addOff 0 (tm 4)) [25],ao 23 0 22,ld 24 23,op 21 (ar .eql (tm 24) (zi 4))] [21])
 (.cond (tm 21) (.seq (rg [op 6 (.mv (zi 1))] [6])
 .ret)
 .skip)))))
 (.seq (rg [op 6 (.mv (zi 2))] [6])
 .ret))
 .skip))
 (.seq (.seq (rg [oq 27 (ar .lss (tm 2) (zi 1)) [27]] [0,2,4,27])
 (.cond (tm 27) (.seq (rg [op 6 (.mv (zi 0))] [6])
 .ret)
 .skip))
 (.seq (rg [oq 30 (.load true 7 (tm 4)) [33],op 28 (.call (.fn 125) [(tm 0),(tm 30)]),op 32 (.extract (tm 28) 0),op 33 (.extract (tm 28) 1),op 7 (.mv (tm 32)),op 8 (.mv (tm 33))] [0,2,7,8])
 (.seq (rg [op 9 (.mv (zi 0))] [0,2,7,8,9])
 (.seq (.seq (rg [op 34 (.mv (tm 7)),op 35 (.len false (tm 34)),op 36 (.mv (zi 0))] [0,2,8,9,34,35,36])
 (.block 1 (.loop lp119_0)))
 (.seq (rg [oq 6 (.mv (tm 9)) [50]] [6])
 .ret))))))))⟩
theorem good119:Good Tryz.prog (119,af119):=mkG Z0 [(0,[0,2,4]),(1,[0,2,4]),(2,[0,2,4,17]),(3,[4,18]),(5,[21]),(6,[6]),(4,[6]),(7,[6]),(8,[0,2,4,27]),(9,[6]),(10,[0,2,7,8]),(11,[0,2,7,8,9]),(12,[0,2,8,9,34,35,36]),(13,[0,2,8,9,34,35,36,37]),(14,[0,2,8,9,11,34,35,36]),(15,[0,2,8,9,34,35,36]),(16,[0,2,8,9,34,35,36]),(17,[6])] Tryz.func119 (by kernel_rfl)
def lp120_0:ACode:=
 (.seq (.seq (rg [oq 20 (.addOff 3 (tm 3)) [27],ld 21 20,op 22 (.len false (tm 21)),op 24 (ar .lss (tm 7) (tm 22)),gt 25 24 (.mv (tm 1)) [],gt 26 24 (ar .geq (tm 25) (zi 0)) [],op 27 (.pick (tm 24) (tm 26) (.lit (.bool false)))] [1,2,3,7,27])
 (.cond (tm 27) .skip
 (.exit 0)))
 (.seq (.block 1 (rg [oq 30 (.addOff 3 (tm 3)) [38],ld 31 30,op 33 (.indexAddrS 6 (tm 31) (tm 7)),op 34 (.load true 6 (tm 33)),op 35 (.mv (tm 1)),op 37 (ar .sub (tm 2) (zi 1)),op 1 (.call (.fn 120) [(tm 34),(tm 35),(tm 37)])] [1,2,3,7]))
 (rg [oq 28 (.mv (tm 7)) [29],op 7 (ar .add (tm 28) (zi 1))] [1,2,3,7])))
def af120:AFunc:=⟨40,3,[.tmp 6],
 (.seq (rg [oq 3 (.box (tm 0)) [6]] [1,2,3])
 (.seq (rg [oq 8 (.mv (tm 1)) [9],op 1 (ar .sub (tm 8) (zi 1))] [1,2,3])
 (.seq (.seq (rg [oq 12 (ar .lss (tm 2) (zi 1)) [18],gf 13 12 (.addOff 4 (tm 3)) [],gf 14 12 (.addOff 0 (tm 13)) [],gf 15 12 (l1 (tm 14)) [],gf 16 12 (.len false (tm 15)) [],gf 17 12 (ar .gtr (tm 16) (zi 24)) [],op 18 (.pick (tm 12) (.lit (.bool true)) (tm 17))] [1,2,3,18])
 (.cond (tm 18) (.seq (rg [op 6 (.mv (zi (-1)))] [6])
 .ret)
 .skip))
 (.seq (.seq (rg [op 7 (.mv (zi 0))] [1,2,3,7])
 (.block 0 (.loop lp120_0)))
 (.seq (rg [oq 6 (.mv (tm 1)) [39]] [6])
 .ret)))))⟩
theorem good120:Good Tryz.prog (120,af120):=mkG Z0 [(0,[1,2,3]),(1,[1,2,3]),(2,[1,2,3,18]),(3,[6]),(4,[1,2,3,7]),(5,[1,2,3,7,27]),(7,[1,2,3,7]),(6,[1,2,3,7]),(8,[6])] Tryz.func120 (by kernel_rfl)
def lp121_0:ACode:=
 (.seq (.seq (rg [oq 110 (.addOff 3 (tm 1)) [113],ld 111 110,op 112 (.len false (tm 111)),op 113 (ar .lss (tm 5) (tm 112))] [1,5,113])
 (.cond (tm 113) .skip
 (.exit 0)))
 (.seq (.block 1 (.seq (rg [oq 116 (.addOff 3 (tm 1)) [121],ld 117 116,op 119 (.indexAddrS 6 (tm 117) (tm 5)),op 120 (.load true 6 (tm 119)),op 6 (.call (.fn 121) [(tm 120)])] [1,5,6])
 (.seq (rg [oq 123 (ar .neq (tm 6) (zi 0)) [123]] [1,5,6,123])
 (.cond (tm 123) (.seq (rg [oq 2 (.mv (tm 6)) [124]] [2])
 .ret)
 .skip))))
 (rg [oq 114 (.mv (tm 5)) [115],op 5 (ar .add (tm 114) (zi 1))] [1,5])))
def af121:AFunc:=⟨125,1,[.tmp 2],
 (.seq (rg [oq 1 (.box (tm 0)) [2]] [1])
 (.seq (.seq (rg [oq 7 (.addOff 0 (tm 1)) [26],ld 8 7,op 9 (.call (.fn 157) [(tm 8),(zi 0),(zi 6)]),op 11 (.not (tm 9)),gf 12 11 (.addOff 1 (tm 1)) [],gf 13 11 (l1 (tm 12)) [],gf 14 11 (.call (.fn 157) [(tm 13),(zi 0),(zi 999999999)]) [],gf 15 11 (.not (tm 14)) [],op 17 (.pick (tm 11) (.lit (.bool true)) (tm 15)),gf 18 17 (.addOff 0 (tm 1)) [],gf 19 17 (l1 (tm 18)) [],gf 20 17 (ar .neq (tm 19) (zi 0)) [],gf 21 17 (.mv (tm 20)) [],gt 22 21 (.addOff 1 (tm 1)) [],gt 23 21 (l1 (tm 22)) [],gt 24 21 (ar .neq (tm 23) (zi 0)) [],gf 25 17 (.pick (tm 21) (tm 24) (.lit (.bool false))) [],op 26 (.pick (tm 17) (.lit (.bool true)) (tm 25))] [1,26])
 (.cond (tm 26) (.seq (rg [op 2 (.mv (zi 1))] [2])
 .ret)
 .skip))
 (.seq (rg [op 3 (.mv (zi 0))] [1,3])
 (.seq (.seq (rg [ao 27 0 1,ld 28 27,op 29 (ar .eql (tm 28) (zi 1))] [1,3,29])
 (.cond (tm 29) (rg [op 3 (.mv (zi 1))] [1,3])
 .skip))
 (.seq (.seq (rg [ao 30 0 1,ld 31 30,op 32 (ar .eql (tm 31) (zi 6))] [1,3,32])
 (.cond (tm 32) (rg [op 3 (.mv (zi 2))] [1,3])
 .skip))
 (.seq (.seq (rg [oq 33 (.addOff 2 (tm 1)) [47],ld 34 33,op 36 (.call (.fn 167) [(tm 34),(tm 3)]),op 38 (.not (tm 36)),gf 39 38 (.addOff 0 (tm 1)) [],gf 40 38 (l1 (tm 39)) [],gf 41 38 (ar .eql (tm 40) (zi 6)) [],gf 42 38 (.mv (tm 41)) [],gt 43 42 (.addOff 2 (tm 1)) [],gt 44 42 (l1 (tm 43)) [],gt 45 42 (.call (.fn 168) [(tm 44)]) [],gf 46 38 (.pick (tm 42) (tm 45) (.lit (.bool false))) [],op 47 (.pick (tm 38) (.lit (.bool true)) (tm 46))] [1,47])
 (.cond (tm 47) (.seq (rg [op 2 (.mv (zi 4))] [2])
 .ret)
 .skip))
 (.seq (.seq (rg [oq 48 (.addOff 0 (tm 1)) [83],ld 49 48,op 51 (ar .eql (tm 49) (zi 5)),gt 52 51 (.addOff 3 (tm 1)) [],gt 53 51 (l1 (tm 52)) [],gt 54 51 (.len false (tm 53)) [],gt 55 51 (ar .neq (tm 54) (zi 2)) [],op 57 (.pick (tm 51) (tm 55) (.lit (.bool false))),gf 58 57 (.addOff 0 (tm 1)) [],gf 59 57 (l1 (tm 58)) [],gf 60 57 (ar .eql (tm 59) (zi 6)) [],gf 61 57 (.mv (tm 60)) [],gt 62 61 (.addOff 3 (tm 1)) [],gt 63 61 (l1 (tm 62)) [],gt 64 61 (.len false (tm 63)) [],gt 65 61 (ar .gtr (tm 64) (zi 4)) [],gf 66 57 (.pick (tm 61) (tm 65) (.lit (.bool false))) [],op 68 (.pick (tm 57) (.lit (.bool true)) (tm 66)),gf 69 68 (.addOff 0 (tm 1)) [],gf 70 68 (l1 (tm 69)) [],gf 71 68 (ar .neq (tm 70) (zi 5)) [],gf 72 68 (.mv (tm 71)) [],gt 73 72 (.addOff 0 (tm 1)) [],gt 74 72 (l1 (tm 73)) [],gt 75 72 (ar .neq (tm 74) (zi 6)) [],gf 76 68 (.pick (tm 72) (tm 75) (.lit (.bool false))) [],gf 77 68 (.mv (tm 76)) [],gt 78 77 (.addOff 3 (tm 1)) [],gt 79 77 (l1 (tm 78)) [],gt 80 77 (.len false (tm 79)) [],gt 81 77 (ar .gtr (tm 80) (zi 0)) [],gf 82 68 (.pick (tm 77) (tm 81) (.lit (.bool false))) [],op 83 (.pick (tm 68) (.lit (.bool true)) (tm 82))] [1,83])
 (.cond (tm 83) (.seq (rg [op 2 (.mv (zi 7))] [2])
 .ret)
 .skip))
 (.seq (.seq (rg [oq 84 (.addOff 0 (tm 1)) [99],ld 85 84,op 87 (ar .neq (tm 85) (zi 5)),gt 88 87 (.addOff 4 (tm 1)) [],gt 89 87 (.addOff 0 (tm 88)) [],gt 90 87 (l1 (tm 89)) [],gt 91 87 (.len false (tm 90)) [],gt 92 87 (ar .gtr (tm 91) (zi 0)) [],gt 93 87 (.mv (tm 92)) [],gf 94 93 (.addOff 4 (tm 1)) [],gf 95 93 (.addOff 1 (tm 94)) [],gf 96 93 (l1 (tm 95)) [],gf 97 93 (ar .neq (tm 96) (zi 0)) [],gt 98 87 (.pick (tm 93) (.lit (.bool true)) (tm 97)) [],op 99 (.pick (tm 87) (tm 98) (.lit (.bool false)))] [1,99])
 (.cond (tm 99) (.seq (rg [op 2 (.mv (zi 1))] [2])
 .ret)
 .skip))
 (.seq (.seq (rg [ao 100 0 1,ld 101 100,op 102 (ar .eql (tm 101) (zi 5))] [1,102])
 (.cond (tm 102) (.seq (rg [oq 103 (.addOff 4 (tm 1)) [105],op 104 (.load true 2 (tm 103)),op 4 (.call (.fn 169) [(tm 104)])] [1,4])
 (.seq (rg [oq 107 (ar .neq (tm 4) (zi 0)) [107]] [1,4,107])
 (.cond (tm 107) (.seq (rg [oq 2 (.mv (tm 4)) [108]] [2])
 .ret)
 .skip)))
 .skip))
 (.seq (.seq (rg [op 5 (.mv (zi 0))] [1,5])
 (.block 0 (.loop lp121_0)))
 (.seq (rg [op 2 (.mv (zi 0))] [2])
 .ret)))))))))))⟩
theorem good121:Good Tryz.prog (121,af121):=mkG Z0 [(0,[1]),(1,[1,26]),(2,[2]),(3,[1,3]),(4,[1,3,29]),(5,[1,3]),(6,[1,3,32]),(7,[1,3]),(8,[1,47]),(9,[2]),(10,[1,83]),(11,[2]),(12,[1,99]),(13,[2]),(14,[1,102]),(15,[1,4]),(16,[1,4,107]),(17,[2]),(18,[1,5]),(19,[1,5,113]),(21,[1,5,6]),(22,[1,5,6,123]),(23,[2]),(20,[1,5]),(24,[2])] Tryz.func121 (by kernel_rfl)
def af122:AFunc:=⟨9,2,[.tmp 4],
 (.seq (rg [op 4 (.mv (tm 4))] [0,1])
 (.seq (rg [oq 7 (.call (.fn 152) [(tm 0),(tm 1)]) [8],op 4 (ar .geq (tm 7) (zi 0))] [4])
 .ret))⟩
theorem good122:Good Tryz.prog (122,af122):=mkG Z0 [(0,[0,1]),(1,[4])] Tryz.func122 (by kernel_rfl)
def lp123_0:ACode:=
 (.seq (.seq (rg [oq 7 (.addOff 0 (tm 2)) [10],ld 8 7,op 9 (.len false (tm 8)),op 10 (ar .lss (tm 5) (tm 9))] [1,2,5,10])
 (.cond (tm 10) .skip
 (.exit 0)))
 (.seq (.block 1 (.seq (rg [oq 13 (.addOff 0 (tm 2)) [20],ld 14 13,op 16 (.indexAddrS 3 (tm 14) (tm 5)),ao 17 0 16,ld 18 17,op 20 (ar .eql (tm 18) (tm 1))] [1,2,5,20])
 (.cond (tm 20) (.seq (rg [oq 4 (.mv (tm 5)) [21]] [4])
 .ret)
 .skip)))
 (rg [oq 11 (.mv (tm 5)) [12],op 5 (ar .add (tm 11) (zi 1))] [1,2,5])))
def af123:AFunc:=⟨22,2,[.tmp 4],
 (.seq (rg [oq 2 (.box (tm 0)) [4]] [1,2])
 (.seq (.seq (rg [op 5 (.mv (zi 0))] [1,2,5])
 (.block 0 (.loop lp123_0)))
 (.seq (rg [op 4 (.mv (zi (-1)))] [4])
 .ret)))⟩
theorem good123:Good Tryz.prog (123,af123):=mkG Z0 [(0,[1,2]),(1,[1,2,5]),(2,[1,2,5,10]),(4,[1,2,5,20]),(5,[4]),(3,[1,2,5]),(6,[4])] Tryz.func123 (by kernel_rfl)
def lp124_0:ACode:=
 (.seq (.seq (rg [ao 3 0 1,ao 4 0 3,ld 5 4,op 6 (ar .eql (tm 5) (zi 1))] [1,2,6])
 (.cond (tm 6) .skip
 (.exit 0)))
 (.block 1 (dr [aq 7 6 1,lq 8 7,oq 9 (.nilCheck (tm 8)) [8],aq 10 1 9,lq 11 10,aq 12 6 1,lq 13 12,oq 14 (.nilCheck (tm 13)) [13],aq 15 0 14,lq 16 15,aq 17 0 1,aq 18 2 17,lq 19 18,oq 20 (.call (.fn 89) [(tm 16),(tm 19)]) [16,19],oq 21 (.indexAddrS 7 (tm 11) (tm 20)) [11,20],oq 22 (.load true 7 (tm 21)) [21],om (.store 7 (tm 1) (tm 22)) [1,22]] [0,1,3,7,15,0,32,96,224,480,0,1024,3072,8160,16383,32767,65535] [1,2])))
def af124:AFunc:=⟨24,1,[.cell 2 true 7],
 (.seq (rg [op 1 (.box (tm 0)),op 2 (.alloc [(.int .i64 0),(.int .i64 0),(.str []),.empty,.empty,(.int .i64 0),.nilptr])] [1,2])
 (.seq (.block 0 (.loop lp124_0))
 (.seq (rg [op 23 (.load true 7 (tm 1)),on (.store 7 (tm 2) (tm 23))] [2])
 .ret)))⟩
theorem good124:Good Tryz.prog (124,af124):=mkG Z0 [(0,[1,2]),(1,[1,2,6]),(2,[1,2]),(3,[2])] Tryz.func124 (by kernel_rfl)
def lp125_0:ACode:=
 (.seq (rg [op 31 (ar .lss (tm 30) (tm 29))] [3,6,7,28,29,30,31])
 (.seq (.cond (tm 31) .skip
 (.exit 0))
 (.seq (.block 1 (.seq (rg [op 32 (.indexAddrS 6 (tm 28) (tm 30)),op 33 (.load true 6 (tm 32)),op 9 (.alloc z6),on (.store 6 (tm 9) (tm 33))] [3,6,7,9,28,29,30])
 (dr [oq 34 (.mv (tm 7)) [7],oq 35 (.mv (tm 7)) [7],oq 36 (.nilCheck (tm 35)) [35],aq 37 1 36,lq 38 37,oq 39 (.load true 6 (tm 9)) [9],aq 40 6 3,lq 41 40,oq 42 (.build [(.int .i64 0),(.int .i64 0),(.str []),.empty,.empty,(.int .i64 0),.nilptr] [(0,6,(tm 39)),(6,1,(tm 41))]) [39,41],oq 43 (.call (.fn 124) [(tm 42)]) [42],oq 44 (.buildSlice 7 1 [(.int .i64 0),(.int .i64 0),(.str []),.empty,.empty,(.int .i64 0),.nilptr] [(0,(tm 43))]) [43],oq 45 (.append 7 96 (tm 38) (tm 44)) [38,44],oq 46 (.nilCheck (tm 34)) [34],aq 47 1 46,om (.store 1 (tm 47) (tm 45)) [47,45]] [0,0,2,6,14,0,0,64,224,480,992,2046,4095,8191,16383] [3,6,7,28,29,30])))
 (rg [oq 30 (ar .add (tm 30) (zi 1)) [48]] [3,6,7,28,29,30]))))
def af125:AFunc:=⟨52,2,[.tmp 4,.tmp 5],
 (.seq (rg [oq 3 (.box (tm 1)) [5]] [0,3])
 (.seq (dr [oq 10 (.mv (tm 0)) [0],oq 11 (.nilCheck (tm 10)) [10],aq 12 0 11,aq 13 0 12,lq 14 13,oq 15 (.mv (tm 0)) [0],aq 16 0 3,aq 17 2 16,lq 18 17,oq 19 (.call (.fn 117) [(tm 15),(tm 18)]) [15,18],oq 20 (.indexAddrS 3 (tm 14) (tm 19)) [14,19],oq 21 (.load true 3 (tm 20)) [20],op 6 (.alloc z3),om (.store 3 (tm 6) (tm 21)) [6,21]] [0,1,3,7,15,0,0,64,192,480,1023,2047,0,8191] [3,6])
 (.seq (rg [oq 22 (.addOff 1 (tm 6)) [25],ld 23 22,op 24 (.build [.empty,.empty] [(0,1,(tm 23))]),op 7 (.box (tm 24))] [3,6,7])
 (.seq (.seq (rg [ao 26 0 3,ao 27 3 26,ld 28 27,op 29 (.len false (tm 28)),op 30 (.mv (zi 0))] [3,6,7,28,29,30])
 (.block 0 (.loop lp125_0)))
 (.seq (rg [oq 49 (.addOff 2 (tm 6)) [51],ld 50 49,op 4 (.mv (tm 50)),op 5 (.mv (tm 7))] [4,5])
 .ret)))))⟩
theorem good125:Good Tryz.prog (125,af125):=mkG Z0 [(0,[0,3]),(1,[3,6]),(2,[3,6,7]),(3,[3,6,7,28,29,30]),(4,[3,6,7,28,29,30,31]),(5,[3,6,7,9,28,29,30]),(6,[3,6,7,28,29,30]),(7,[3,6,7,28,29,30]),(8,[4,5])] Tryz.func125 (by kernel_rfl)
def lp126_0:ACode:=
 (.seq (rg [op 80 (ar .lss (tm 79) (tm 78))] [0,1,2,3,8,9,11,13,71,72,73,77,78,79,80])
 (.seq (.cond (tm 80) .skip
 (.exit 4))
 (.seq (.block 5 (.seq (rg [oq 81 (.indexAddrS 1 (tm 77) (tm 79)) [82],ld 15 81] [0,1,2,3,8,9,11,13,15,71,72,73,77,78,79])
 (rg [oq 83 (.mv (tm 8)) [89],op 84 (.load true 7 (tm 13)),op 85 (.buildRow 7 1 [(.int .i64 0),(.int .i64 0),(.str []),(.str []),.empty,.empty,.empty] [(0,(tm 84))]),op 87 (.append 7 120 (tm 85) (tm 15)),op 88 (.buildSlice 1 1 [.empty] [(0,(tm 87))]),op 8 (.append 1 24 (tm 83) (tm 88))] [0,1,2,3,8,9,11,13,71,72,73,77,78,79])))
 (rg [oq 79 (ar .add (tm 79) (zi 1)) [90]] [0,1,2,3,8,9,11,13,71,72,73,77,78,79]))))
def lp126_1:ACode:=
 (.seq (rg [op 74 (ar .lss (tm 73) (tm 72))] [0,1,2,3,8,9,11,71,72,73,74])
 (.seq (.cond (tm 74) .skip
 (.exit 2))
 (.seq (.block 3 (.seq (rg [op 75 (.indexAddrS 7 (tm 71) (tm 73)),op 76 (.load true 7 (tm 75)),op 13 (.alloc z7a),on (.store 7 (tm 13) (tm 76))] [0,1,2,3,8,9,11,13,71,72,73])
 (.seq (rg [op 77 (.mv (tm 11)),op 78 (.len false (tm 77)),op 79 (.mv (zi 0))] [0,1,2,3,8,9,11,13,71,72,73,77,78,79])
 (.block 4 (.loop lp126_0)))))
 (rg [oq 73 (ar .add (tm 73) (zi 1)) [91]] [0,1,2,3,8,9,11,71,72,73]))))
def lp126_2:ACode:=
 (.seq (.seq (rg [oq 28 (.len false (tm 1)) [32],op 29 (ar .add (tm 9) (tm 28)),op 30 (ar .sub (tm 29) (zi 1)),op 32 (ar .leq (tm 30) (tm 3))] [0,1,2,3,8,9,32])
 (.cond (tm 32) .skip
 (.exit 0)))
 (.seq (.block 1 (.seq (rg [oq 37 (.sliceRow 6 (tm 1) (some (zi 1)) none none) [42],op 41 (ar .sub (tm 3) (tm 9)),op 10 (.call (.fn 166) [(tm 0),(tm 37),(tm 2),(tm 41)])] [0,1,2,3,8,9,10])
 (.seq (.seq (rg [oq 45 (ar .eql (tm 10) (zi 0)) [55],gf 46 45 (.mv (tm 0)) [],gf 47 45 (.mv (tm 1)) [],gf 48 45 (.indexAddrS 6 (tm 47) (zi 0)) [],gf 49 45 (.load true 6 (tm 48)) [],gf 50 45 (.mv (tm 2)) [],gf 51 45 (.build [(.int .i64 0),(.int .i64 0),(.str []),.empty,.empty,(.int .i64 0),.nilptr] [(0,6,(tm 49)),(6,1,(tm 50))]) [],gf 52 45 (.mv (tm 9)) [],gf 53 45 (.call (.fn 119) [(tm 46),(tm 51),(tm 52)]) [],gf 54 45 (ar .eql (tm 53) (zi 0)) [],op 55 (.pick (tm 45) (.lit (.bool true)) (tm 54))] [0,1,2,3,8,9,55])
 (.cond (tm 55) (.exit 1)
 .skip))
 (.seq (rg [oq 58 (.sliceRow 6 (tm 1) (some (zi 1)) none none) [63],op 62 (ar .sub (tm 3) (tm 9)),op 11 (.call (.fn 126) [(tm 0),(tm 58),(tm 2),(tm 62)])] [0,1,2,3,8,9,11])
 (.seq (rg [oq 66 (.indexAddrS 6 (tm 1) (zi 0)) [73],op 67 (.load true 6 (tm 66)),op 69 (.build [(.int .i64 0),(.int .i64 0),(.str []),.empty,.empty,(.int .i64 0),.nilptr] [(0,6,(tm 67)),(6,1,(tm 2))]),op 71 (.call (.fn 75) [(tm 0),(tm 69),(tm 9)]),op 72 (.len false (tm 71)),op 73 (.mv (zi 0))] [0,1,2,3,8,9,11,71,72,73])
 (.block 2 (.loop lp126_1)))))))
 (rg [oq 33 (.mv (tm 9)) [34],op 9 (ar .add (tm 33) (zi 1))] [0,1,2,3,8,9])))
def af126:AFunc:=⟨93,4,[.tmp 8],
 (.seq (rg [op 8 (.newrow 1)] [0,1,2,3,8])
 (.seq (.seq (rg [oq 20 (.call (.fn 166) [(tm 0),(tm 1),(tm 2),(tm 3)]) [21],op 21 (ar .eql (tm 20) (zi 0))] [0,1,2,3,8,21])
 (.cond (tm 21) (.seq (rg [op 8 (.newrow 1)] [8])
 .ret)
 .skip))
 (.seq (.seq (rg [oq 23 (.len false (tm 1)) [24],op 24 (ar .eql (tm 23) (zi 0))] [0,1,2,3,8,24])
 (.cond (tm 24) (.seq (rg [oq 8 (.buildSlice 1 1 [.empty] [(0,(.lit .empty))]) [25]] [8])
 .ret)
 .skip))
 (.seq (.seq (rg [op 9 (.mv (zi 1))] [0,1,2,3,8,9])
 (.block 0 (.loop lp126_2)))
 (.seq (rg [oq 8 (.mv (tm 8)) [92]] [8])
 .ret)))))⟩
theorem good126:Good Tryz.prog (126,af126):=mkG (fun t=>t==8||t==85) [(0,[0,1,2,3,8]),(1,[0,1,2,3,8,21]),(2,[8]),(3,[0,1,2,3,8,24]),(4,[8]),(5,[0,1,2,3,8,9]),(6,[0,1,2,3,8,9,32]),(8,[0,1,2,3,8,9,10]),(9,[0,1,2,3,8,9,55]),(10,[0,1,2,3,8,9,11]),(11,[0,1,2,3,8,9,11,71,72,73]),(12,[0,1,2,3,8,9,11,71,72,73,74]),(13,[0,1,2,3,8,9,11,13,71,72,73]),(14,[0,1,2,3,8,9,11,13,71,72,73,77,78,79]),(15,[0,1,2,3,8,9,11,13,71,72,73,77,78,79,80]),(16,[0,1,2,3,8,9,11,13,15,71,72,73,77,78,79]),(17,[0,1,2,3,8,9,11,13,71,72,73,77,78,79]),(18,[0,1,2,3,8,9,11,13,71,72,73,77,78,79]),(19,[0,1,2,3,8,9,11,71,72,73]),(7,[0,1,2,3,8,9]),(20,[8])] Tryz.func126 (by kernel_rfl)
def lp127_0:ACode:=
 (.seq (.seq (rg [oq 13 (ar .leq (tm 8) (tm 1)) [13]] [0,1,2,6,7,8,13])
 (.cond (tm 13) .skip
 (.exit 0)))
 (.block 1 (.seq (rg [oq 18 (.call (.fn 170) [(tm 0),(tm 7),(tm 8),(tm 2)]) [18]] [0,1,2,6,8])
 (.seq (rg [oq 7 (.mv (tm 8)) [19]] [0,1,2,6,7,8])
 (rg [oq 20 (.mv (tm 8)) [22],op 8 (ar .add (tm 20) (tm 6))] [0,1,2,6,7,8])))))
def lp127_1:ACode:=
 (.seq (.seq (rg [oq 35 (ar .leq (tm 8) (tm 1)) [35]] [0,1,2,6,7,8,35])
 (.cond (tm 35) .skip
 (.exit 4)))
 (.block 5 (.seq (rg [oq 40 (ar .add (tm 7) (tm 6)) [43],op 43 (.call (.fn 171) [(tm 0),(tm 7),(tm 40),(tm 8),(tm 2)])] [0,1,2,6,8])
 (.seq (rg [oq 7 (.mv (tm 8)) [44]] [0,1,2,6,7,8])
 (rg [oq 45 (.mv (tm 8)) [48],op 47 (ar .mul (zi 2) (tm 6)),op 8 (ar .add (tm 45) (tm 47))] [0,1,2,6,7,8])))))
def lp127_2:ACode:=
 (.seq (.seq (rg [oq 30 (ar .lss (tm 6) (tm 1)) [30]] [0,1,2,6,30])
 (.cond (tm 30) .skip
 (.exit 2)))
 (.block 3 (.seq (rg [oq 32 (ar .mul (zi 2) (tm 6)) [32],op 7 (.mv (zi 0)),op 8 (.mv (tm 32))] [0,1,2,6,7,8])
 (.seq (.block 4 (.loop lp127_1))
 (.seq (.seq (rg [oq 9 (ar .add (tm 7) (tm 6)) [51]] [0,1,2,6,7,9])
 (.seq (rg [oq 54 (ar .lss (tm 9) (tm 1)) [54]] [0,1,2,6,7,9,54])
 (.cond (tm 54) (rg [oq 60 (.call (.fn 171) [(tm 0),(tm 7),(tm 9),(tm 1),(tm 2)]) [60]] [0,1,2,6])
 .skip)))
 (rg [oq 61 (.mv (tm 6)) [62],op 6 (ar .mul (tm 61) (zi 2))] [0,1,2,6]))))))
def af127:AFunc:=⟨63,3,[],
 (.seq (rg [op 6 (.mv (zi 20))] [0,1,2,6])
 (.seq (rg [oq 7 (.mv (zi 0)) [10],op 8 (.mv (tm 6))] [0,1,2,6,7,8])
 (.seq (.block 0 (.loop lp127_0))
 (.seq (rg [oq 27 (.call (.fn 170) [(tm 0),(tm 7),(tm 1),(tm 2)]) [27]] [0,1,2,6])
 (.block 2 (.loop lp127_2))))))⟩
theorem good127:Good Tryz.prog (127,af127):=mkG Z0 [(0,[0,1,2,6]),(1,[0,1,2,6,7,8]),(2,[0,1,2,6,7,8,13]),(3,[0,1,2,6,8]),(4,[0,1,2,6,7,8]),(5,[0,1,2,6,7,8]),(6,[0,1,2,6]),(7,[0,1,2,6,30]),(8,[0,1,2,6,7,8]),(9,[0,1,2,6,7,8,35]),(10,[0,1,2,6,8]),(11,[0,1,2,6,7,8]),(12,[0,1,2,6,7,8]),(13,[0,1,2,6,7,9]),(14,[0,1,2,6,7,9,54]),(15,[0,1,2,6]),(16,[0,1,2,6])] Tryz.func127 (by kernel_rfl)
def as128_0:ACode:=
 .skip
def bd128_1:ACode:=
 (.block 1 (rg [ld 7 3,op 8 (ar .add (tm 7) (zi 1)),on (.store 1 (tm 3) (tm 8))] [3]))
def af128:AFunc:=⟨10,1,[.tmp 2],
 (.seq (rg [oq 1 (.box (tm 0)) [2]] [1])
 (.seq (rg [op 3 (.alloc [(.int .i64 0)]),on (.store 1 (tm 3) (zi 0))] [1,3])
 (.seq (.seq (rg [op 4 (.load true 7 (tm 1)),op 5 (.call (.fn 150) [(tm 4)])] [3,5])
 (.block 0 (.rangeFunc (tm 5) [6] as128_0 bd128_1)))
 (.seq (rg [oq 2 (l1 (tm 3)) [9]] [2])
 .ret))))⟩
theorem good128:Good Tryz.prog (128,af128):=mkG Z0 [(0,[1]),(1,[1,3]),(2,[3,5]),(3,[3]),(4,[2])] Tryz.func128 (by kernel_rfl)
def af129:AFunc:=⟨9,2,[.tmp 3],
 (.seq (rg [oq 2 (.box (tm 0)) [3]] [1,2])
 (.seq (rg [oq 4 (.addOff 0 (tm 2)) [8],ld 5 4,ao 6 2 1,ld 7 6,op 3 (ar .eql (tm 5) (tm 7))] [3])
 .ret))⟩
theorem good129:Good Tryz.prog (129,af129):=mkG Z0 [(0,[1,2]),(1,[3])] Tryz.func129 (by kernel_rfl)
end Go.AI

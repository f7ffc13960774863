/- A logic for code of the model, proved sound, and what functions do that the laws on matrices come to; nothing is asked. Part 3. -/
import Derived.Test.YtgbhgfdgifkdhaaGreatM2
import Derived.Test.YtgbhgfdgifkdhaaGreatProg
import Derived.Test.YtgbhgfdgifkdhaaGreatRows
import Derived.ProofKit
import Derived.OpenShut
import Derived.Carry
import Derived.Deep.Slices

set_option linter.unusedVariables false
set_option linter.unusedSimpArgs false
set_option linter.unnecessarySimpa false

namespace Go.Proofs.YtgbhgfdgifkdhaaGreat
open Go.Proofs.YtgbhgfdgifkdhaaGreat.X
def Γ (t : Nat):TI:=bif Nat.blt t 264 then (bif Nat.blt t 132 then (bif Nat.blt t 66 then (bif Nat.blt t 33 then (bif Nat.blt t 16 then (bif Nat.blt t 8 then (bif Nat.blt t 4 then (bif Nat.blt t 2 then (bif Nat.blt t 1 then TI.no else ⟨.func,1,8,[.nilFunc],[]⟩) else (bif Nat.blt t 3 then ⟨.int .i64,1,8,[.int .i64 0],[]⟩ else ⟨.int .i64,1,8,[.int .i64 0],[]⟩)) else (bif Nat.blt t 6 then (bif Nat.blt t 5 then ⟨.bool,1,1,[.bool false],[]⟩ else ⟨.int .u8,1,1,[.int .u8 0],[]⟩) else (bif Nat.blt t 7 then ⟨.int .u8,1,1,[.int .u8 0],[]⟩ else ⟨.struct [(0,2),(1,3),(2,4),(3,6)],4,24,[.int .i64 0,.int .i64 0,.bool false,.int .u8 0],[]⟩))) else (bif Nat.blt t 12 then (bif Nat.blt t 10 then (bif Nat.blt t 9 then ⟨.struct [(0,2),(1,3),(2,4),(3,6)],4,24,[.int .i64 0,.int .i64 0,.bool false,.int .u8 0],[]⟩ else ⟨.str,1,16,[.string .empty],[]⟩) else (bif Nat.blt t 11 then ⟨.str,1,16,[.string .empty],[]⟩ else ⟨.str,1,16,[.string .empty],[]⟩)) else (bif Nat.blt t 14 then (bif Nat.blt t 13 then ⟨.int .u64,1,8,[.int .u64 0],[]⟩ else ⟨.struct [(0,9),(1,12)],2,24,[.string .empty,.int .u64 0],[]⟩) else (bif Nat.blt t 15 then ⟨.struct [(0,9),(1,12)],2,24,[.string .empty,.int .u64 0],[]⟩ else ⟨.ptr 248,1,8,[.pointer none],[]⟩)))) else (bif Nat.blt t 24 then (bif Nat.blt t 20 then (bif Nat.blt t 18 then (bif Nat.blt t 17 then ⟨.ptr 251,1,8,[.pointer none],[]⟩ else ⟨.ptr 259,1,8,[.pointer none],[]⟩) else (bif Nat.blt t 19 then ⟨.struct [(0,17)],1,8,[.pointer none],[]⟩ else ⟨.struct [(0,17)],1,8,[.pointer none],[]⟩)) else (bif Nat.blt t 22 then (bif Nat.blt t 21 then TI.no else ⟨.int .i32,1,4,[.int .i32 0],[]⟩) else (bif Nat.blt t 23 then ⟨.slice 23,1,24,[.slice none 0 0],[]⟩ else ⟨.slice 31,1,24,[.slice none 0 0],[]⟩))) else (bif Nat.blt t 28 then (bif Nat.blt t 26 then (bif Nat.blt t 25 then ⟨.int .i64,1,8,[.int .i64 0],[]⟩ else TI.no) else (bif Nat.blt t 27 then ⟨.func,1,8,[.nilFunc],[]⟩ else ⟨.func,1,8,[.nilFunc],[]⟩)) else (bif Nat.blt t 30 then (bif Nat.blt t 29 then ⟨.slice 3,1,24,[.slice none 0 0],[]⟩ else ⟨.func,1,8,[.nilFunc],[]⟩) else (bif Nat.blt t 31 then ⟨.slice 28,1,24,[.slice none 0 0],[]⟩ else (bif Nat.blt t 32 then ⟨.slice 33,1,24,[.slice none 0 0],[]⟩ else ⟨.struct [(0,3),(1,3),(2,3),(3,3),(4,3)],5,40,[.int .i64 0,.int .i64 0,.int .i64 0,.int .i64 0,.int .i64 0],[]⟩)))))) else (bif Nat.blt t 49 then (bif Nat.blt t 41 then (bif Nat.blt t 37 then (bif Nat.blt t 35 then (bif Nat.blt t 34 then ⟨.struct [(0,3),(1,3),(2,3),(3,3),(4,3)],5,40,[.int .i64 0,.int .i64 0,.int .i64 0,.int .i64 0,.int .i64 0],[.int .i64,.int .i64,.int .i64,.int .i64,.int .i64]⟩ else ⟨.func,1,8,[.nilFunc],[]⟩) else (bif Nat.blt t 36 then ⟨.func,1,8,[.nilFunc],[]⟩ else ⟨.func,1,8,[.nilFunc],[]⟩)) else (bif Nat.blt t 39 then (bif Nat.blt t 38 then ⟨.func,1,8,[.nilFunc],[]⟩ else ⟨.func,1,8,[.nilFunc],[]⟩) else (bif Nat.blt t 40 then ⟨.func,1,8,[.nilFunc],[]⟩ else ⟨.slice 5,1,24,[.slice none 0 0],[]⟩))) else (bif Nat.blt t 45 then (bif Nat.blt t 43 then (bif Nat.blt t 42 then ⟨.ptr 88,1,8,[.pointer none],[]⟩ else ⟨.func,1,8,[.nilFunc],[]⟩) else (bif Nat.blt t 44 then ⟨.struct [(0,3),(1,28),(2,3),(3,3)],4,48,[.int .i64 0,.slice none 0 0,.int .i64 0,.int .i64 0],[]⟩ else ⟨.struct [(0,3),(1,28),(2,3),(3,3)],4,48,[.int .i64 0,.slice none 0 0,.int .i64 0,.int .i64 0],[]⟩)) else (bif Nat.blt t 47 then (bif Nat.blt t 46 then ⟨.func,1,8,[.nilFunc],[]⟩ else ⟨.func,1,8,[.nilFunc],[]⟩) else (bif Nat.blt t 48 then ⟨.func,1,8,[.nilFunc],[]⟩ else ⟨.func,1,8,[.nilFunc],[]⟩)))) else (bif Nat.blt t 57 then (bif Nat.blt t 53 then (bif Nat.blt t 51 then (bif Nat.blt t 50 then TI.no else ⟨.func,1,8,[.nilFunc],[]⟩) else (bif Nat.blt t 52 then TI.no else ⟨.func,1,8,[.nilFunc],[]⟩)) else (bif Nat.blt t 55 then (bif Nat.blt t 54 then ⟨.func,1,8,[.nilFunc],[]⟩ else ⟨.func,1,8,[.nilFunc],[]⟩) else (bif Nat.blt t 56 then ⟨.func,1,8,[.nilFunc],[]⟩ else ⟨.func,1,8,[.nilFunc],[]⟩))) else (bif Nat.blt t 61 then (bif Nat.blt t 59 then (bif Nat.blt t 58 then ⟨.func,1,8,[.nilFunc],[]⟩ else ⟨.func,1,8,[.nilFunc],[]⟩) else (bif Nat.blt t 60 then ⟨.func,1,8,[.nilFunc],[]⟩ else ⟨.func,1,8,[.nilFunc],[]⟩)) else (bif Nat.blt t 63 then (bif Nat.blt t 62 then ⟨.int .u16,1,2,[.int .u16 0],[]⟩ else ⟨.slice 44,1,24,[.slice none 0 0],[]⟩) else (bif Nat.blt t 64 then TI.no else (bif Nat.blt t 65 then ⟨.func,1,8,[.nilFunc],[]⟩ else ⟨.func,1,8,[.nilFunc],[]⟩))))))) else (bif Nat.blt t 99 then (bif Nat.blt t 82 then (bif Nat.blt t 74 then (bif Nat.blt t 70 then (bif Nat.blt t 68 then (bif Nat.blt t 67 then ⟨.func,1,8,[.nilFunc],[]⟩ else ⟨.func,1,8,[.nilFunc],[]⟩) else (bif Nat.blt t 69 then ⟨.func,1,8,[.nilFunc],[]⟩ else ⟨.func,1,8,[.nilFunc],[]⟩)) else (bif Nat.blt t 72 then (bif Nat.blt t 71 then ⟨.func,1,8,[.nilFunc],[]⟩ else ⟨.func,1,8,[.nilFunc],[]⟩) else (bif Nat.blt t 73 then ⟨.func,1,8,[.nilFunc],[]⟩ else ⟨.func,1,8,[.nilFunc],[]⟩))) else (bif Nat.blt t 78 then (bif Nat.blt t 76 then (bif Nat.blt t 75 then ⟨.func,1,8,[.nilFunc],[]⟩ else ⟨.func,1,8,[.nilFunc],[]⟩) else (bif Nat.blt t 77 then ⟨.func,1,8,[.nilFunc],[]⟩ else ⟨.func,1,8,[.nilFunc],[]⟩)) else (bif Nat.blt t 80 then (bif Nat.blt t 79 then TI.no else ⟨.func,1,8,[.nilFunc],[]⟩) else (bif Nat.blt t 81 then TI.no else ⟨.func,1,8,[.nilFunc],[]⟩)))) else (bif Nat.blt t 90 then (bif Nat.blt t 86 then (bif Nat.blt t 84 then (bif Nat.blt t 83 then ⟨.func,1,8,[.nilFunc],[]⟩ else ⟨.func,1,8,[.nilFunc],[]⟩) else (bif Nat.blt t 85 then ⟨.func,1,8,[.nilFunc],[]⟩ else ⟨.func,1,8,[.nilFunc],[]⟩)) else (bif Nat.blt t 88 then (bif Nat.blt t 87 then ⟨.int .u32,1,4,[.int .u32 0],[]⟩ else ⟨.struct [(0,40),(1,3),(2,86)],3,40,[.slice none 0 0,.int .i64 0,.int .u32 0],[]⟩) else (bif Nat.blt t 89 then ⟨.struct [(0,40),(1,3),(2,86)],3,40,[.slice none 0 0,.int .i64 0,.int .u32 0],[]⟩ else ⟨.func,1,8,[.nilFunc],[]⟩))) else (bif Nat.blt t 94 then (bif Nat.blt t 92 then (bif Nat.blt t 91 then ⟨.func,1,8,[.nilFunc],[]⟩ else ⟨.int .u64,1,8,[.int .u64 0],[]⟩) else (bif Nat.blt t 93 then ⟨.func,1,8,[.nilFunc],[]⟩ else ⟨.func,1,8,[.nilFunc],[]⟩)) else (bif Nat.blt t 96 then (bif Nat.blt t 95 then ⟨.func,1,8,[.nilFunc],[]⟩ else ⟨.func,1,8,[.nilFunc],[]⟩) else (bif Nat.blt t 97 then ⟨.func,1,8,[.nilFunc],[]⟩ else (bif Nat.blt t 98 then TI.no else ⟨.func,1,8,[.nilFunc],[]⟩)))))) else (bif Nat.blt t 115 then (bif Nat.blt t 107 then (bif Nat.blt t 103 then (bif Nat.blt t 101 then (bif Nat.blt t 100 then ⟨.slice 173,1,24,[.slice none 0 0],[]⟩ else ⟨.struct [(0,3),(1,3),(2,99)],3,40,[.int .i64 0,.int .i64 0,.slice none 0 0],[]⟩) else (bif Nat.blt t 102 then ⟨.struct [(0,3),(1,3),(2,99)],3,40,[.int .i64 0,.int .i64 0,.slice none 0 0],[]⟩ else TI.no)) else (bif Nat.blt t 105 then (bif Nat.blt t 104 then ⟨.func,1,8,[.nilFunc],[]⟩ else ⟨.func,1,8,[.nilFunc],[]⟩) else (bif Nat.blt t 106 then TI.no else ⟨.func,1,8,[.nilFunc],[]⟩))) else (bif Nat.blt t 111 then (bif Nat.blt t 109 then (bif Nat.blt t 108 then ⟨.func,1,8,[.nilFunc],[]⟩ else ⟨.func,1,8,[.nilFunc],[]⟩) else (bif Nat.blt t 110 then ⟨.func,1,8,[.nilFunc],[]⟩ else ⟨.func,1,8,[.nilFunc],[]⟩)) else (bif Nat.blt t 113 then (bif Nat.blt t 112 then ⟨.slice 31,1,24,[.slice none 0 0],[]⟩ else ⟨.func,1,8,[.nilFunc],[]⟩) else (bif Nat.blt t 114 then ⟨.func,1,8,[.nilFunc],[]⟩ else ⟨.func,1,8,[.nilFunc],[]⟩)))) else (bif Nat.blt t 123 then (bif Nat.blt t 119 then (bif Nat.blt t 117 then (bif Nat.blt t 116 then ⟨.func,1,8,[.nilFunc],[]⟩ else ⟨.func,1,8,[.nilFunc],[]⟩) else (bif Nat.blt t 118 then ⟨.func,1,8,[.nilFunc],[]⟩ else ⟨.array 2 3,2,16,[.int .i64 0,.int .i64 0],[]⟩)) else (bif Nat.blt t 121 then (bif Nat.blt t 120 then ⟨.array 2 3,2,16,[.int .i64 0,.int .i64 0],[.int .i64,.int .i64]⟩ else ⟨.func,1,8,[.nilFunc],[]⟩) else (bif Nat.blt t 122 then ⟨.func,1,8,[.nilFunc],[]⟩ else ⟨.func,1,8,[.nilFunc],[]⟩))) else (bif Nat.blt t 127 then (bif Nat.blt t 125 then (bif Nat.blt t 124 then ⟨.func,1,8,[.nilFunc],[]⟩ else ⟨.func,1,8,[.nilFunc],[]⟩) else (bif Nat.blt t 126 then ⟨.func,1,8,[.nilFunc],[]⟩ else TI.no)) else (bif Nat.blt t 129 then (bif Nat.blt t 128 then ⟨.func,1,8,[.nilFunc],[]⟩ else ⟨.func,1,8,[.nilFunc],[]⟩) else (bif Nat.blt t 130 then ⟨.func,1,8,[.nilFunc],[]⟩ else (bif Nat.blt t 131 then ⟨.func,1,8,[.nilFunc],[]⟩ else TI.no)))))))) else (bif Nat.blt t 198 then (bif Nat.blt t 165 then (bif Nat.blt t 148 then (bif Nat.blt t 140 then (bif Nat.blt t 136 then (bif Nat.blt t 134 then (bif Nat.blt t 133 then ⟨.map 3 111,1,8,[.map none],[]⟩ else ⟨.func,1,8,[.nilFunc],[]⟩) else (bif Nat.blt t 135 then ⟨.func,1,8,[.nilFunc],[]⟩ else ⟨.func,1,8,[.nilFunc],[]⟩)) else (bif Nat.blt t 138 then (bif Nat.blt t 137 then ⟨.func,1,8,[.nilFunc],[]⟩ else ⟨.func,1,8,[.nilFunc],[]⟩) else (bif Nat.blt t 139 then ⟨.func,1,8,[.nilFunc],[]⟩ else TI.no))) else (bif Nat.blt t 144 then (bif Nat.blt t 142 then (bif Nat.blt t 141 then ⟨.func,1,8,[.nilFunc],[]⟩ else ⟨.func,1,8,[.nilFunc],[]⟩) else (bif Nat.blt t 143 then ⟨.func,1,8,[.nilFunc],[]⟩ else ⟨.func,1,8,[.nilFunc],[]⟩)) else (bif Nat.blt t 146 then (bif Nat.blt t 145 then ⟨.func,1,8,[.nilFunc],[]⟩ else ⟨.func,1,8,[.nilFunc],[]⟩) else (bif Nat.blt t 147 then ⟨.func,1,8,[.nilFunc],[]⟩ else ⟨.func,1,8,[.nilFunc],[]⟩)))) else (bif Nat.blt t 156 then (bif Nat.blt t 152 then (bif Nat.blt t 150 then (bif Nat.blt t 149 then ⟨.func,1,8,[.nilFunc],[]⟩ else ⟨.func,1,8,[.nilFunc],[]⟩) else (bif Nat.blt t 151 then ⟨.func,1,8,[.nilFunc],[]⟩ else ⟨.array 3 21,3,12,[.int .i32 0,.int .i32 0,.int .i32 0],[]⟩)) else (bif Nat.blt t 154 then (bif Nat.blt t 153 then ⟨.array 3 21,3,12,[.int .i32 0,.int .i32 0,.int .i32 0],[.int .i32,.int .i32,.int .i32]⟩ else ⟨.array 3 152,9,36,[.int .i32 0,.int .i32 0,.int .i32 0,.int .i32 0,.int .i32 0,.int .i32 0,.int .i32 0,.int .i32 0,.int .i32 0],[]⟩) else (bif Nat.blt t 155 then ⟨.func,1,8,[.nilFunc],[]⟩ else ⟨.func,1,8,[.nilFunc],[]⟩))) else (bif Nat.blt t 160 then (bif Nat.blt t 158 then (bif Nat.blt t 157 then ⟨.func,1,8,[.nilFunc],[]⟩ else ⟨.struct [(0,9),(1,23)],2,40,[.string .empty,.slice none 0 0],[]⟩) else (bif Nat.blt t 159 then ⟨.struct [(0,9),(1,23)],2,40,[.string .empty,.slice none 0 0],[]⟩ else ⟨.slice 158,1,24,[.slice none 0 0],[]⟩)) else (bif Nat.blt t 162 then (bif Nat.blt t 161 then ⟨.func,1,8,[.nilFunc],[]⟩ else ⟨.func,1,8,[.nilFunc],[]⟩) else (bif Nat.blt t 163 then ⟨.func,1,8,[.nilFunc],[]⟩ else (bif Nat.blt t 164 then ⟨.func,1,8,[.nilFunc],[]⟩ else ⟨.func,1,8,[.nilFunc],[]⟩)))))) else (bif Nat.blt t 181 then (bif Nat.blt t 173 then (bif Nat.blt t 169 then (bif Nat.blt t 167 then (bif Nat.blt t 166 then ⟨.struct [(0,44),(4,164)],5,56,[.int .i64 0,.slice none 0 0,.int .i64 0,.int .i64 0,.nilFunc],[]⟩ else ⟨.struct [(0,44),(4,164)],5,56,[.int .i64 0,.slice none 0 0,.int .i64 0,.int .i64 0,.nilFunc],[]⟩) else (bif Nat.blt t 168 then ⟨.func,1,8,[.nilFunc],[]⟩ else TI.no)) else (bif Nat.blt t 171 then (bif Nat.blt t 170 then ⟨.func,1,8,[.nilFunc],[]⟩ else ⟨.func,1,8,[.nilFunc],[]⟩) else (bif Nat.blt t 172 then ⟨.map 21 3,1,8,[.map none],[]⟩ else ⟨.struct [(0,3),(1,28),(2,3),(3,3)],4,48,[.int .i64 0,.slice none 0 0,.int .i64 0,.int .i64 0],[]⟩))) else (bif Nat.blt t 177 then (bif Nat.blt t 175 then (bif Nat.blt t 174 then ⟨.struct [(0,3),(1,28),(2,3),(3,3)],4,48,[.int .i64 0,.slice none 0 0,.int .i64 0,.int .i64 0],[]⟩ else ⟨.func,1,8,[.nilFunc],[]⟩) else (bif Nat.blt t 176 then ⟨.func,1,8,[.nilFunc],[]⟩ else ⟨.func,1,8,[.nilFunc],[]⟩)) else (bif Nat.blt t 179 then (bif Nat.blt t 178 then ⟨.func,1,8,[.nilFunc],[]⟩ else ⟨.func,1,8,[.nilFunc],[]⟩) else (bif Nat.blt t 180 then ⟨.func,1,8,[.nilFunc],[]⟩ else ⟨.func,1,8,[.nilFunc],[]⟩)))) else (bif Nat.blt t 189 then (bif Nat.blt t 185 then (bif Nat.blt t 183 then (bif Nat.blt t 182 then ⟨.func,1,8,[.nilFunc],[]⟩ else ⟨.map 3 33,1,8,[.map none],[]⟩) else (bif Nat.blt t 184 then ⟨.func,1,8,[.nilFunc],[]⟩ else ⟨.func,1,8,[.nilFunc],[]⟩)) else (bif Nat.blt t 187 then (bif Nat.blt t 186 then ⟨.func,1,8,[.nilFunc],[]⟩ else ⟨.func,1,8,[.nilFunc],[]⟩) else (bif Nat.blt t 188 then ⟨.struct [(0,33),(5,89)],6,48,[.int .i64 0,.int .i64 0,.int .i64 0,.int .i64 0,.int .i64 0,.nilFunc],[]⟩ else ⟨.struct [(0,33),(5,89)],6,48,[.int .i64 0,.int .i64 0,.int .i64 0,.int .i64 0,.int .i64 0,.nilFunc],[]⟩))) else (bif Nat.blt t 193 then (bif Nat.blt t 191 then (bif Nat.blt t 190 then ⟨.func,1,8,[.nilFunc],[]⟩ else ⟨.func,1,8,[.nilFunc],[]⟩) else (bif Nat.blt t 192 then ⟨.func,1,8,[.nilFunc],[]⟩ else ⟨.func,1,8,[.nilFunc],[]⟩)) else (bif Nat.blt t 195 then (bif Nat.blt t 194 then ⟨.func,1,8,[.nilFunc],[]⟩ else ⟨.func,1,8,[.nilFunc],[]⟩) else (bif Nat.blt t 196 then ⟨.func,1,8,[.nilFunc],[]⟩ else (bif Nat.blt t 197 then ⟨.struct [(0,111),(1,138)],2,32,[.slice none 0 0,.nilFunc],[]⟩ else ⟨.struct [(0,111),(1,138)],2,32,[.slice none 0 0,.nilFunc],[]⟩))))))) else (bif Nat.blt t 231 then (bif Nat.blt t 214 then (bif Nat.blt t 206 then (bif Nat.blt t 202 then (bif Nat.blt t 200 then (bif Nat.blt t 199 then ⟨.func,1,8,[.nilFunc],[]⟩ else ⟨.func,1,8,[.nilFunc],[]⟩) else (bif Nat.blt t 201 then ⟨.func,1,8,[.nilFunc],[]⟩ else ⟨.func,1,8,[.nilFunc],[]⟩)) else (bif Nat.blt t 204 then (bif Nat.blt t 203 then ⟨.array 4 3,4,32,[.int .i64 0,.int .i64 0,.int .i64 0,.int .i64 0],[]⟩ else ⟨.array 4 3,4,32,[.int .i64 0,.int .i64 0,.int .i64 0,.int .i64 0],[.int .i64,.int .i64,.int .i64,.int .i64]⟩) else (bif Nat.blt t 205 then ⟨.func,1,8,[.nilFunc],[]⟩ else ⟨.func,1,8,[.nilFunc],[]⟩))) else (bif Nat.blt t 210 then (bif Nat.blt t 208 then (bif Nat.blt t 207 then ⟨.func,1,8,[.nilFunc],[]⟩ else ⟨.func,1,8,[.nilFunc],[]⟩) else (bif Nat.blt t 209 then ⟨.int .i32,1,4,[.int .i32 0],[]⟩ else ⟨.slice 21,1,24,[.slice none 0 0],[]⟩)) else (bif Nat.blt t 212 then (bif Nat.blt t 211 then ⟨.map 220 118,1,8,[.map none],[]⟩ else ⟨.struct [(0,159),(1,210)],2,32,[.slice none 0 0,.map none],[]⟩) else (bif Nat.blt t 213 then ⟨.struct [(0,159),(1,210)],2,32,[.slice none 0 0,.map none],[]⟩ else ⟨.ptr 212,1,8,[.pointer none],[]⟩)))) else (bif Nat.blt t 222 then (bif Nat.blt t 218 then (bif Nat.blt t 216 then (bif Nat.blt t 215 then ⟨.func,1,8,[.nilFunc],[]⟩ else ⟨.func,1,8,[.nilFunc],[]⟩) else (bif Nat.blt t 217 then ⟨.func,1,8,[.nilFunc],[]⟩ else ⟨.slice 152,1,24,[.slice none 0 0],[]⟩)) else (bif Nat.blt t 220 then (bif Nat.blt t 219 then TI.no else ⟨.array 4 33,20,160,[.int .i64 0,.int .i64 0,.int .i64 0,.int .i64 0,.int .i64 0,.int .i64 0,.int .i64 0,.int .i64 0,.int .i64 0,.int .i64 0,.int .i64 0,.int .i64 0,.int .i64 0,.int .i64 0,.int .i64 0,.int .i64 0,.int .i64 0,.int .i64 0,.int .i64 0,.int .i64 0],[]⟩) else (bif Nat.blt t 221 then ⟨.array 4 33,20,160,[.int .i64 0,.int .i64 0,.int .i64 0,.int .i64 0,.int .i64 0,.int .i64 0,.int .i64 0,.int .i64 0,.int .i64 0,.int .i64 0,.int .i64 0,.int .i64 0,.int .i64 0,.int .i64 0,.int .i64 0,.int .i64 0,.int .i64 0,.int .i64 0,.int .i64 0,.int .i64 0],[]⟩ else ⟨.func,1,8,[.nilFunc],[]⟩))) else (bif Nat.blt t 226 then (bif Nat.blt t 224 then (bif Nat.blt t 223 then ⟨.func,1,8,[.nilFunc],[]⟩ else ⟨.func,1,8,[.nilFunc],[]⟩) else (bif Nat.blt t 225 then ⟨.func,1,8,[.nilFunc],[]⟩ else ⟨.func,1,8,[.nilFunc],[]⟩)) else (bif Nat.blt t 228 then (bif Nat.blt t 227 then ⟨.func,1,8,[.nilFunc],[]⟩ else ⟨.func,1,8,[.nilFunc],[]⟩) else (bif Nat.blt t 229 then ⟨.func,1,8,[.nilFunc],[]⟩ else (bif Nat.blt t 230 then ⟨.func,1,8,[.nilFunc],[]⟩ else ⟨.func,1,8,[.nilFunc],[]⟩)))))) else (bif Nat.blt t 247 then (bif Nat.blt t 239 then (bif Nat.blt t 235 then (bif Nat.blt t 233 then (bif Nat.blt t 232 then ⟨.map 208 3,1,8,[.map none],[]⟩ else ⟨.func,1,8,[.nilFunc],[]⟩) else (bif Nat.blt t 234 then ⟨.func,1,8,[.nilFunc],[]⟩ else ⟨.func,1,8,[.nilFunc],[]⟩)) else (bif Nat.blt t 237 then (bif Nat.blt t 236 then ⟨.func,1,8,[.nilFunc],[]⟩ else ⟨.func,1,8,[.nilFunc],[]⟩) else (bif Nat.blt t 238 then ⟨.func,1,8,[.nilFunc],[]⟩ else ⟨.struct [(0,101),(3,179)],4,48,[.int .i64 0,.int .i64 0,.slice none 0 0,.nilFunc],[]⟩))) else (bif Nat.blt t 243 then (bif Nat.blt t 241 then (bif Nat.blt t 240 then ⟨.struct [(0,101),(3,179)],4,48,[.int .i64 0,.int .i64 0,.slice none 0 0,.nilFunc],[]⟩ else ⟨.func,1,8,[.nilFunc],[]⟩) else (bif Nat.blt t 242 then ⟨.func,1,8,[.nilFunc],[]⟩ else ⟨.map 3 23,1,8,[.map none],[]⟩)) else (bif Nat.blt t 245 then (bif Nat.blt t 244 then ⟨.map 3 23,1,8,[.map none],[]⟩ else ⟨.func,1,8,[.nilFunc],[]⟩) else (bif Nat.blt t 246 then ⟨.func,1,8,[.nilFunc],[]⟩ else TI.no)))) else (bif Nat.blt t 255 then (bif Nat.blt t 251 then (bif Nat.blt t 249 then (bif Nat.blt t 248 then ⟨.struct [(0,17),(1,17),(2,17),(3,9)],4,40,[.pointer none,.pointer none,.pointer none,.string .empty],[]⟩ else ⟨.struct [(0,17),(1,17),(2,17),(3,9)],4,40,[.pointer none,.pointer none,.pointer none,.string .empty],[]⟩) else (bif Nat.blt t 250 then ⟨.array 0 16,0,0,[],[]⟩ else ⟨.struct [(0,249)],0,0,[],[]⟩)) else (bif Nat.blt t 253 then (bif Nat.blt t 252 then ⟨.struct [(0,249)],0,0,[],[]⟩ else ⟨.int .u8,1,1,[.int .u8 0],[]⟩) else (bif Nat.blt t 254 then ⟨.int .u8,1,1,[.int .u8 0],[]⟩ else ⟨.func,1,8,[.nilFunc],[]⟩))) else (bif Nat.blt t 259 then (bif Nat.blt t 257 then (bif Nat.blt t 256 then ⟨.ptr 5,1,8,[.pointer none],[]⟩ else ⟨.int .i32,1,4,[.int .i32 0],[]⟩) else (bif Nat.blt t 258 then ⟨.int .i32,1,4,[.int .i32 0],[]⟩ else ⟨.struct [(0,12),(1,12),(2,86),(3,252),(4,5),(5,5),(6,253),(7,254),(8,255),(9,256),(10,257)],11,48,[.int .u64 0,.int .u64 0,.int .u32 0,.int .u8 0,.int .u8 0,.int .u8 0,.int .u8 0,.nilFunc,.pointer none,.int .i32 0,.int .i32 0],[]⟩)) else (bif Nat.blt t 261 then (bif Nat.blt t 260 then ⟨.struct [(0,12),(1,12),(2,86),(3,252),(4,5),(5,5),(6,253),(7,254),(8,255),(9,256),(10,257)],11,48,[.int .u64 0,.int .u64 0,.int .u32 0,.int .u8 0,.int .u8 0,.int .u8 0,.int .u8 0,.nilFunc,.pointer none,.int .i32 0,.int .i32 0],[]⟩ else ⟨.func,1,8,[.nilFunc],[]⟩) else (bif Nat.blt t 262 then TI.no else (bif Nat.blt t 263 then ⟨.func,1,8,[.nilFunc],[]⟩ else ⟨.func,1,8,[.nilFunc],[]⟩))))))))) else TI.no
theorem Γ_checked : ((List.range 264).all fun t=>ckTI Tryz.prog t (Γ t))=true:=by kernel_rfl
theorem Γ_flats : ((List.range 264).all fun t=>(Γ t).flat.isEmpty || [33,119,152,203].contains t)=true:=by kernel_rfl
theorem flat33 : FlatOK Tryz.prog 33 [.int .i64,.int .i64,.int .i64,.int .i64,.int .i64]:=flat_struct Tryz.underlying33 (by kernel_rfl) (by kernel_rfl) (by simp[FieldsAre,Scalar,Tryz.underlying3])
theorem flat119 : FlatOK Tryz.prog 119 (List.replicate 2 (.int .i64)):=flat_array (n:=2) Tryz.underlying119 (by kernel_rfl) (i:=(Tryz.prog.info? 3).getD default) (by kernel_rfl) (by kernel_rfl) Tryz.underlying3
theorem flat152 : FlatOK Tryz.prog 152 (List.replicate 3 (.int .i32)):=flat_array (n:=3) Tryz.underlying152 (by kernel_rfl) (i:=(Tryz.prog.info? 21).getD default) (by kernel_rfl) (by kernel_rfl) Tryz.underlying21
theorem flat203 : FlatOK Tryz.prog 203 (List.replicate 4 (.int .i64)):=flat_array (n:=4) Tryz.underlying203 (by kernel_rfl) (i:=(Tryz.prog.info? 3).getD default) (by kernel_rfl) (by kernel_rfl) Tryz.underlying3
theorem Γok : ∀ t,TIOK Tryz.prog t (Γ t):=by
  intro t
  by_cases h:t < 264
  · refine ckTI_ok (List.all_eq_true.1 Γ_checked t (List.mem_range.2 h)) ?_
    have:=List.all_eq_true.1 Γ_flats t (List.mem_range.2 h)
    rw[Bool.or_eq_true] at this
    rcases this with e | e
    · exact .inl (List.isEmpty_iff.1 e)
    · refine .inr ?_
      have e:t∈[33,119,152,203]:=List.contains_iff_mem.1 e
      simp only[List.mem_cons,List.not_mem_nil,or_false] at e
      rcases e with rfl | rfl | rfl | rfl
      · exact flat33
      · exact flat119
      · exact flat152
      · exact flat203
  · refine .inl ?_
    have:Nat.blt t 264=false:=by
      cases e:Nat.blt t 264 with
      | false=>rfl
      | true=>exact absurd (Nat.le_of_ble_eq_true e) h
    simp only[Γ,this]
    rfl
end Go.Proofs.YtgbhgfdgifkdhaaGreat

namespace Go.Proofs.YtgbhgfdgifkdhaaGreat
open Go.Proofs.YtgbhgfdgifkdhaaGreat.X Go.Proofs.YtgbhgfdgifkdhaaGreat.X.PH
set_option maxRecDepth 100000
theorem mixes : Tryz.prog.follows .mixedOrders=true:=by kernel_rfl
def polL : Tmp→Pol:=fun _=>.loc
theorem c177 (xs : List Int) (p:Int→Bool) (H:PH) (v f:Value) (hv:SlH H v xs.length (xs.map fun x=>.int .i64 x)) (hf:∀ x∈xs,Does Tryz.prog H f [.int .i64 x] fun r _=>r=.bool (p x)) (hlen:xs.length < 9223372036854775808) :
    Cl Tryz.prog 245 [v,f] H emp fun r _ _=>r=.int .i64 (match xs.findIdx? p with | some i=>i | none=>-1):=by
  obtain⟨base,cap,rfl,hv'⟩:=id hv
  refine Cl_of (pol:=polL) Γok Tryz.func245 (by kernel_rfl) rfl ?_
  conv=>whnf
  refine W_loop (pol:=polL) Γok (Nat × PH) (fun i=>i.1≤xs.length∧Sub H i.2∧∀ x∈xs.take i.1,p x=false) (fun i=>xs.length - i.1) (fun i=>[(8,.v (.int .i64 i.1))]) (fun _=>[]) (fun i=>i.2) (fun _=>emp) ⟨(0,H),⟨by simp,Sub.refl _,by simp⟩,rfl,rfl,?_⟩ ?_
  · conv=>whnf
    repeat (refine⟨rfl,?_⟩;conv=>whnf)
    exact trivial
  · rintro ⟨i,H'⟩ ⟨h1,h2,h3⟩
    dsimp only at h1 h2 h3
    conv=>whnf
    refine if_intro (fun h=>?_) (fun h=>?_)
    · have hi:i < xs.length:=by simpa using h
      obtain⟨b,off,rfl,hrd⟩:=(hv.up h2).rd (O:=emp) (sz:=1) (by simp) hi
      have e:(List.take 1 (List.drop (i*1) (xs.map fun x=>Value.int .i64 x)))=[.int .i64 xs[i]]:=by
        rw[Nat.mul_one,List.drop_eq_getElem_cons (by simpa using hi)];simp
      rw[e] at hrd
      conv=>whnf
      refine dec_intro (by simpa using hi) ?_
      conv=>whnf
      refine⟨_,hrd,?_⟩
      conv=>whnf
      refine ((hf xs[i] (List.getElem_mem hi)).up h2).use fun r H'' hs hr=>?_
      subst hr
      conv=>whnf
      refine if_intro (fun hp=>?_) (fun hp=>?_)
      · conv=>whnf
        have:xs.findIdx? p=some i:=by
          rw[List.findIdx?_eq_some_iff_getElem]
          exact⟨hi,hp,fun j hj=>by
            have:=h3 xs[j] (List.mem_take_iff_getElem.2 ⟨j,by omega,rfl⟩)
            simp[this]⟩
        rw[this]
      · conv=>whnf
        refine⟨(i+1,H''),⟨hi,h2.trans hs,?_⟩,by dsimp only;omega,?_⟩
        · intro x hx
          dsimp only at hx
          rw[List.take_succ_eq_append_getElem hi] at hx
          rcases List.mem_append.1 hx with hx | hx
          · exact h3 x hx
          · simp at hx;rw[hx];exact hp
        · conv=>whnf
          refine⟨rfl,rfl,?_⟩
          conv=>whnf
          repeat (refine⟨rfl,?_⟩;conv=>whnf)
          refine⟨by rw[wrap_id (by omega) (by omega)];rfl,?_⟩
          conv=>whnf
          repeat (refine⟨rfl,?_⟩;conv=>whnf)
          exact trivial
    · conv=>whnf
      have hi:i=xs.length:=by simp at h;omega
      have:xs.findIdx? p=none:=by
        rw[List.findIdx?_eq_none_iff]
        intro x hx
        exact h3 x (by rw[hi,List.take_length];exact hx)
      rw[this]
theorem c147 (xs : List Int) (p:Int→Bool) (H:PH) (v f:Value) (hv:SlH H v xs.length (xs.map fun x=>.int .i64 x)) (hf:∀ x∈xs,Does Tryz.prog H f [.int .i64 x] fun r _=>r=.bool (p x)) (hlen:xs.length < 9223372036854775808) :
    Cl Tryz.prog 198 [v,f] H emp fun r _ _=>r=.bool (xs.any p):=by
  refine Cl_of (pol:=polL) Γok Tryz.func198 (by kernel_rfl) rfl ?_
  conv=>whnf
  refine (c177 xs p H v f hv hf hlen).val fun H' hs=>?_
  conv=>whnf
  congr 1
  cases h:xs.findIdx? p with
  | none=>
    rw[List.findIdx?_eq_none_iff] at h
    have:xs.any p=false:=by simpa using h
    rw[this];rfl
  | some i=>
    rw[List.findIdx?_eq_some_iff_getElem] at h
    obtain⟨hi,hp,_⟩:=h
    have:xs.any p=true:=List.any_eq_true.2 ⟨_,List.getElem_mem hi,hp⟩
    rw[this]
    simp
theorem c188 (x : Int) (p:Int→Bool) (H:PH) (b:Nat) (f:Value) (t:TypeId) (hb:H b=some (.cells ⟨[f]⟩ t (0,0))) (hf:Does Tryz.prog H f [.int .i64 x] fun r _=>r=.bool (p x)) :
    Cl Tryz.prog 259 [.int .i64 x,.pointer (some ⟨b,0,none⟩)] H emp fun r _ _=>r=.bool (!p x):=by
  refine Cl_of (pol:=polL) Γok Tryz.func259 (by kernel_rfl) rfl ?_
  conv=>whnf
  refine⟨_,Rd.whole hb,?_⟩
  conv=>whnf
  refine hf.use fun r H' hs hr=>?_
  subst hr
  conv=>whnf
theorem c182 (xs : List Int) (p:Int→Bool) (H:PH) (v:Value) (fn:Fn) (first cap:Array Value) (hv:SlH H v xs.length (xs.map fun x=>.int .i64 x)) (hf:∀ x∈xs,Does Tryz.prog H (.func fn first cap) [.int .i64 x] fun r _=>r=.bool (p x)) (hlen:xs.length < 9223372036854775808) :
    Cl Tryz.prog 247 [v,.func fn first cap] H emp fun r _ _=>r=.bool (xs.all p):=by
  obtain⟨base,cp,rfl,hv'⟩:=id hv
  refine Cl_of (pol:=fun | 3=>.imm | _=>.loc) Γok Tryz.func247 (by kernel_rfl) rfl ?_
  conv=>whnf
  intro b hb hO
  conv=>whnf
  have hs:=sub_ins H (.cells ⟨[.func fn first cap]⟩ 135 (0,0)) hb
  refine (c147 xs (fun x=>!p x) _ _ _ (hv.up hs) (fun x hx=>⟨259,[],[_],rfl,fun H' hs'=>?_⟩) hlen).val fun H' _=>?_
  · exact c188 x p H' b (.func fn first cap) _ (hs' _ _ (ins_same _ _ _)) ((hf x hx).up (hs.trans hs'))
  · conv=>whnf
    congr 1
    simp[List.not_any_eq_all_not]
def inN (n x : Int):Bool:=decide (x≤n) && decide (x ≥ IntKind.i64.wrap (0 - n))
theorem c183 (x n : Int) (H:PH) (b:Nat) (t:TypeId) (hb:H b=some (.cells ⟨[.int .i64 n]⟩ t (0,0))) :
    Cl Tryz.prog 248 [.int .i64 x,.pointer (some ⟨b,0,none⟩)] H emp fun r _ _=>r=.bool (inN n x):=by
  refine Cl_of (pol:=polL) Γok Tryz.func248 (by kernel_rfl) rfl ?_
  conv=>whnf
  refine⟨_,Rd.whole hb,?_⟩
  conv=>whnf
  refine if_intro (fun h=>?_) (fun h=>?_)
  · conv=>whnf
    refine⟨_,Rd.whole hb,?_⟩
    conv=>whnf
    unfold inN
    rw[h]
    rfl
  · conv=>whnf
    unfold inN
    rw[h]
    rfl
structure P4 where
  a:Int
  b:Int
  c:Int
  d:Int
abbrev P4.list (p : P4):List Int:=[p.a,p.b,p.c,p.d]
def P4.v (p : P4):Value:=.agg ⟨[.int .i64 p.a,.int .i64 p.b,.int .i64 p.c,.int .i64 p.d]⟩
def wr (n : Int):Int:=IntKind.i64.wrap n
def P4.half (p : P4):P4:=⟨wr ((wr (p.b - p.d)).tdiv 2),wr ((wr (p.a+p.c)).tdiv 2),wr ((wr (p.b+p.d)).tdiv 2),wr ((wr (p.c - p.a)).tdiv 2)⟩
def P4.twice (p : P4):P4:=⟨wr (p.b - p.d),wr (p.a+p.c),wr (p.b+p.d),wr (p.c - p.a)⟩
def P4.even (p : P4):Bool:=(wr (p.a - p.c)).tmod 2 == 0 && (wr (p.b - p.d)).tmod 2 == 0
def P4.num (p : P4) (k:Int):Value:=.agg ⟨[.int .i64 p.a,.int .i64 p.b,.int .i64 p.c,.int .i64 p.d,.int .i64 k]⟩
def P4.work (p : P4) (k:Int):Value:=.agg ⟨[.int .i64 p.a,.int .i64 p.b,.int .i64 p.c,.int .i64 p.d,.int .i64 k,.func (.func 240) #[] #[]]⟩
theorem c178 (a b : Int) (H:PH):Cl Tryz.prog 240 [.int .i64 a,.int .i64 b] H emp fun v _ _=>v=.int .i64 (wr (a+b)):=by
  refine Cl_of (pol:=polL) Γok Tryz.func240 (by kernel_rfl) rfl ?_
  conv=>whnf
  rfl
theorem c157 (p : P4) (k:Int) (H:PH):Cl Tryz.prog 214 [p.work k] H emp fun v _ _=>v=p.v:=by
  refine Cl_of (pol:=polL) Γok Tryz.func214 (by kernel_rfl) rfl ?_
  conv=>whnf
  repeat (intro _;conv=>whnf)
  rfl
theorem c170 (p : P4) (k:Int) (H:PH):Cl Tryz.prog 217 [p.v,.int .i64 k] H emp fun v _ _=>v=p.num k:=by
  refine Cl_of (pol:=polL) Γok Tryz.func217 (by kernel_rfl) rfl ?_
  conv=>whnf
  repeat (intro _;conv=>whnf)
  rfl
theorem c179 (p : P4) (H:PH):Cl Tryz.prog 241 [p.v] H emp fun v _ _=>v=p.half.v:=by
  refine Cl_of (pol:=polL) Γok Tryz.func241 (by kernel_rfl) rfl ?_
  conv=>whnf
  repeat (intro _;conv=>whnf)
  rfl
theorem c181 (p : P4) (H:PH):Cl Tryz.prog 243 [p.v] H emp fun v _ _=>v=p.twice.v:=by
  refine Cl_of (pol:=polL) Γok Tryz.func243 (by kernel_rfl) rfl ?_
  conv=>whnf
  repeat (intro _;conv=>whnf)
  rfl
theorem c180 (p : P4) (H:PH):Cl Tryz.prog 242 [p.v] H emp fun v _ _=>v=.bool p.even:=by
  refine Cl_of (pol:=polL) Γok Tryz.func242 (by kernel_rfl) rfl ?_
  conv=>whnf
  repeat (intro _;conv=>whnf)
  refine if_intro (fun h=>?_) (fun h=>?_)
  · conv=>whnf
    unfold P4.even wr
    rw[h]
    rfl
  · conv=>whnf
    unfold P4.even wr
    rw[h]
    rfl
theorem c151 (p : P4) (k:Int) (H:PH):Cl Tryz.prog 183 [p.num k] H emp fun v _ _=>v=p.work k:=by
  refine Cl_of (pol:=polL) Γok Tryz.func183 (by kernel_rfl) rfl ?_
  conv=>whnf
  repeat (intro _;conv=>whnf)
  rfl
theorem c158 (p : P4) (n:Int) (H:PH):Cl Tryz.prog 215 [p.v,.int .i64 n] H emp fun r _ _=>r=.bool (p.list.all (inN n)):=by
  refine Cl_of (pol:=fun | 2=>.imm | 3=>.imm | _=>.loc) Γok Tryz.func215 (by kernel_rfl) rfl ?_
  conv=>whnf
  intro b hb hO
  conv=>whnf
  intro b' hb' hO'
  conv=>whnf
  have hs1:=sub_ins H (.cells ⟨[.int .i64 p.a,.int .i64 p.b,.int .i64 p.c,.int .i64 p.d]⟩ 203 (0,0)) hb
  have hs2:=sub_ins _ (.cells ⟨[.int .i64 n]⟩ 3 (0,0)) hb'
  refine (c182 p.list (inN n) _ _ _ _ _ ⟨_,_,rfl,.inr ⟨b,0,_,_,_,rfl,hs2 _ _ (ins_same _ _ _),rfl⟩⟩ (fun x hx=>⟨248,[],[_],rfl,fun H' hs'=>?_⟩) (by simp)).val fun H' _=>?_
  · exact c183 x n H' b' _ (hs' _ _ (ins_same _ _ _))
  · conv=>whnf
def lower : Nat→P4→P4 × Nat
  | 0,p=>(p,0)
  | k+1,p=>if p.even then lower k p.half else (p,k+1)
def raise : Nat→P4→Option P4
  | 0,p=>some p
  | k+1,p=>if p.list.all (inN 4294967296) then raise k p.twice else none
def P4.zero : P4:=⟨0,0,0,0⟩
def P4.isZero (p : P4):Bool:=p.a == 0 && (p.b == 0 && (p.c == 0 && (p.d == 0 && true)))
def lowered (p : P4) (k:Int):P4 × Int:=if 0 < k then ((lower k.toNat p).1,(lower k.toNat p).2) else (p,k)
def nv (x : P4 × Int):Value:=x.1.num x.2
def leastE (v : Option P4) (j:Int):(P4 × Int) × Int:=
  match v with
  | none=>((P4.zero,0),8)
  | some r=>if 60 < j then ((P4.zero,0),8) else if r.list.all (inN 1073741824) then ((r,max j 0),0) else ((P4.zero,0),8)
def leastF (p : P4) (k:Int):(P4 × Int) × Int:=
  if p.isZero then ((P4.zero,0),0) else leastE (raise (-(lowered p k).2).toNat (lowered p k).1) (lowered p k).2
theorem lower_le : ∀ (k:Nat) (p:P4),(lower k p).2≤k
  | 0,p=>by simp[lower]
  | k+1,p=>by
    unfold lower
    split
    · have:=lower_le k p.half;omega
    · simp
end Go.Proofs.YtgbhgfdgifkdhaaGreat

namespace Go.Proofs.YtgbhgfdgifkdhaaGreat
open Go.Proofs.YtgbhgfdgifkdhaaGreat.X Go.Proofs.YtgbhgfdgifkdhaaGreat.X.PH
set_option maxRecDepth 100000
theorem lower_end {j : Nat} {q:P4} (h:j=0∨q.even=false):lower j q=(q,j):=by
  cases j with
  | zero=>rfl
  | succ j=>simp[lower,h.resolve_left (by simp)]
theorem leastE_some (r : P4) (j:Int):leastE (some r) j=if 60 < j then ((P4.zero,0),8) else if r.list.all (inN 1073741824) then ((r,max j 0),0) else ((P4.zero,0),8):=rfl
theorem not_all {b : Bool} (h:(!b)=true):¬ b=true:=by cases b<;>simp_all
theorem yes_all {b : Bool} (h:(!b)=false):b=true:=by cases b<;>simp_all
theorem c152 (p : P4) (k:Int) (h1:-9223372036854775808≤k) (h2:k < 9223372036854775808) (H:PH):Cl Tryz.prog 184 [p.work k] H emp fun v _ _=>v=.tuple #[nv (leastF p k).1,.int .i64 (leastF p k).2]:=by
  refine Cl_of (pol:=fun | 1=>.imm | _=>.loc) Γok Tryz.func184 (by kernel_rfl) rfl ?_
  conv=>whnf
  repeat (intro _;conv=>whnf)
  refine W_draw (pol:=polL) Γok mixes [(0,.pendO),(2,.pendH),(3,.pendH),(4,.pendH),(1,.lock),(5,.late),(6,.lock),(7,.pendO)] 56 (by kernel_rfl) rfl ?_
  conv=>whnf
  refine (c157 p k _).val fun H1 hs1=>?_
  conv=>whnf
  repeat (intro _;conv=>whnf)
  refine if_intro (fun hz=>?_) (fun hz=>?_)
  · conv=>whnf
    have e:leastF p k=((P4.zero,0),0):=by
      unfold leastF
      rw[if_pos (show p.isZero=true from hz)]
    rw[e]
    rfl
  conv=>whnf
  refine W_draw (pol:=polL) Γok mixes [(0,.pendO),(1,.pendO),(2,.pendO),(3,.pendO),(4,.pendO),(5,.pendO)] 56 (by kernel_rfl) rfl ?_
  conv=>whnf
  refine W_loopX (pol:=polL) Γok (P4 × Int × PH) (fun i=>Sub H1 i.2.2∧((0 < k∧0≤i.2.1∧i.2.1≤k∧lower k.toNat p=lower i.2.1.toNat i.1)∨(k≤0∧i.1=p∧i.2.1=k))) (fun i=>i.2.1.toNat) (fun e i=>e=.exit 0∧Sub H1 i.2.2∧lowered p k=(i.1,i.2.1))
    (fun i=>[(5,.v (.int .i64 i.2.1)),(6,.v (.func (.func 241) #[i.1.v] #[])),(7,.v (.func (.func 242) #[i.1.v] #[]))])
    (fun i=>[(2,[.int .i64 i.1.a,.int .i64 i.1.b,.int .i64 i.1.c,.int .i64 i.1.d])]) (fun i=>i.2.2) (fun _=>emp) ⟨(p,k,H1),⟨Sub.refl _,?_⟩,rfl,rfl,?_⟩ ?_ ?_
  · rcases Int.lt_or_le 0 k with h | h
    · exact .inl ⟨h,by dsimp only;omega,Int.le_refl _,rfl⟩
    · exact .inr ⟨h,rfl,rfl⟩
  · conv=>whnf
    repeat (first | (refine⟨rfl,?_⟩;conv=>whnf) | (refine dec_intro (by decide) ?_;conv=>whnf))
    exact trivial
  · rintro ⟨q,j,H'⟩ ⟨hs,hj⟩
    dsimp only at hs hj
    conv=>whnf
    refine if_intro (fun hg=>?_) (fun hg=>?_)
    · conv=>whnf
      refine (c180 q _).val fun H2 hs2=>?_
      conv=>whnf
      have hj0:0 < j:=by simpa using hg
      refine if_intro (fun he=>?_) (fun he=>?_)
      · conv=>whnf
        refine (c179 q _).val fun H3 hs3=>?_
        conv=>whnf
        refine W_draw (pol:=polL) Γok mixes [(0,.pendO),(1,.pendO),(2,.pendO),(3,.pendO),(4,.pendO),(5,.pendO)] 56 (by kernel_rfl) rfl ?_
        conv=>whnf
        refine⟨(q.half,j - 1,H3),⟨hs.trans (hs2.trans hs3),?_⟩,by dsimp only;omega,?_⟩
        · rcases hj with⟨k1,k2,k3,k4⟩ | ⟨k1,k2,k3⟩
          · refine .inl ⟨k1,by dsimp only;omega,by dsimp only;omega,?_⟩
            rw[k4]
            have:j.toNat=(j - 1).toNat+1:=by omega
            rw[this]
            simp[lower,he]
          · omega
        · conv=>whnf
          refine⟨rfl,rfl,?_⟩
          conv=>whnf
          repeat (refine⟨rfl,?_⟩;conv=>whnf)
          refine⟨by show En.v (.int .i64 (IntKind.i64.wrap (j - 1)))=_;rw[wrap_id (by omega) (by omega)],?_⟩
          conv=>whnf
          repeat (first | (refine⟨rfl,?_⟩;conv=>whnf) | (refine dec_intro (by decide) ?_;conv=>whnf))
          exact trivial
      · conv=>whnf
        refine .inr ⟨(q,j,H2),⟨rfl,hs.trans hs2,?_⟩,?_⟩
        · rcases hj with⟨k1,k2,k3,k4⟩ | ⟨k1,k2,k3⟩
          · unfold lowered
            rw[if_pos k1,k4,lower_end (.inr he)]
            simp only[Prod.mk.injEq,true_and]
            omega
          · omega
        · conv=>whnf
          refine⟨rfl,rfl,?_⟩
          conv=>whnf
          repeat (first | (refine⟨rfl,?_⟩;conv=>whnf) | (refine dec_intro (by decide) ?_;conv=>whnf))
          exact trivial
    · conv=>whnf
      have hj0:j≤0:=by simpa using hg
      refine .inr ⟨(q,j,H'),⟨rfl,hs,?_⟩,?_⟩
      · unfold lowered
        rcases hj with⟨k1,k2,k3,k4⟩ | ⟨k1,k2,k3⟩
        · rw[if_pos k1,k4,lower_end (.inl (by omega))]
          simp only[Prod.mk.injEq,true_and]
          omega
        · rw[if_neg (by omega),k2,k3]
      · conv=>whnf
        refine⟨rfl,rfl,?_⟩
        conv=>whnf
        repeat (first | (refine⟨rfl,?_⟩;conv=>whnf) | (refine dec_intro (by decide) ?_;conv=>whnf))
        exact trivial
  · rintro e ⟨q,j,H2⟩ ⟨rfl,hs2,hlow⟩
    dsimp only at hs2 hlow
    have hlz:leastF p k=leastE (raise (-j).toNat q) j:=by
      unfold leastF
      rw[if_neg (show ¬ p.isZero=true by rw[show p.isZero=false from hz];simp),hlow]
    have hjr:-9223372036854775808≤j∧j < 9223372036854775808:=by
      unfold lowered at hlow
      split at hlow
      · have:=lower_le k.toNat p
        cases hlow
        omega
      · cases hlow;exact⟨h1,h2⟩
    conv=>whnf
    refine W_loopX (pol:=polL) Γok (P4 × Int × PH) (fun i=>Sub H2 i.2.2∧((0≤j∧i.1=q∧i.2.1=j)∨(j < 0∧j≤i.2.1∧i.2.1≤0∧raise (-j).toNat q=raise (-i.2.1).toNat i.1))) (fun i=>(-i.2.1).toNat) (fun e i=>e=.exit 2∧Sub H2 i.2.2∧raise (-j).toNat q=some i.1∧i.2.1=max j 0)
      (fun i=>[(5,.v (.int .i64 i.2.1))])
      (fun i=>[(2,[.int .i64 i.1.a,.int .i64 i.1.b,.int .i64 i.1.c,.int .i64 i.1.d])]) (fun i=>i.2.2) (fun _=>emp) ⟨(q,j,H2),⟨Sub.refl _,?_⟩,rfl,rfl,?_⟩ ?_ ?_
    · rcases Int.lt_or_le j 0 with h | h
      · exact .inr ⟨h,Int.le_refl _,by dsimp only;omega,rfl⟩
      · exact .inl ⟨h,rfl,rfl⟩
    · conv=>whnf
      repeat (first | (refine⟨rfl,?_⟩;conv=>whnf) | (refine dec_intro (by decide) ?_;conv=>whnf))
      exact trivial
    · rintro ⟨u,m,H'⟩ ⟨hs,hm⟩
      dsimp only at hs hm
      conv=>whnf
      refine if_intro (fun hg=>?_) (fun hg=>?_)
      · have hm0:m < 0:=by simpa using hg
        conv=>whnf
        refine (c158 u _ _).val fun H3 hs3=>?_
        conv=>whnf
        refine if_intro (fun hw=>?_) (fun hw=>?_)
        · conv=>whnf
          refine .inl ?_
          conv=>whnf
          have hr:raise (-j).toNat q=none:=by
            rcases hm with⟨k1,k2,k3⟩ | ⟨k1,k2,k3,k4⟩
            · omega
            · rw[k4,show (-m).toNat=((-m).toNat - 1)+1 by omega]
              simp only[raise]
              rw[if_neg (not_all hw)]
          rw[hlz,hr]
          rfl
        · conv=>whnf
          refine (c181 u _).val fun H4 hs4=>?_
          conv=>whnf
          refine⟨(u.twice,m+1,H4),⟨hs.trans (hs3.trans hs4),?_⟩,by dsimp only;omega,?_⟩
          · rcases hm with⟨k1,k2,k3⟩ | ⟨k1,k2,k3,k4⟩
            · omega
            · refine .inr ⟨k1,by dsimp only;omega,by dsimp only;omega,?_⟩
              rw[k4]
              have:(-m).toNat=(-(m+1)).toNat+1:=by omega
              rw[this]
              simp only[raise]
              rw[if_pos (yes_all hw)]
          · conv=>whnf
            refine⟨rfl,rfl,?_⟩
            conv=>whnf
            repeat (refine⟨rfl,?_⟩;conv=>whnf)
            refine⟨by show En.v (.int .i64 (IntKind.i64.wrap (m+1)))=_;rw[wrap_id (by omega) (by omega)],?_⟩
            conv=>whnf
            repeat (first | (refine⟨rfl,?_⟩;conv=>whnf) | (refine dec_intro (by decide) ?_;conv=>whnf))
            exact trivial
      · have hm0:0≤m:=by simpa using hg
        conv=>whnf
        refine .inr ⟨(u,m,H'),⟨rfl,hs,?_⟩,?_⟩
        · rcases hm with⟨k1,k2,k3⟩ | ⟨k1,k2,k3,k4⟩
          · refine⟨?_,by dsimp only;omega⟩
            rw[show (-j).toNat=0 by omega,k2];rfl
          · refine⟨?_,by dsimp only;omega⟩
            rw[k4,show (-m).toNat=0 by omega];rfl
        · conv=>whnf
          refine⟨rfl,rfl,?_⟩
          conv=>whnf
          repeat (first | (refine⟨rfl,?_⟩;conv=>whnf) | (refine dec_intro (by decide) ?_;conv=>whnf))
          exact trivial
    · rintro e ⟨u,m,H3⟩ ⟨rfl,hs3,hra,hm⟩
      dsimp only at hs3 hra hm
      conv=>whnf
      refine if_intro (fun hg=>?_) (fun hg=>?_)
      · conv=>whnf
        have hj60:60 < j:=by
          have:m > 60:=by simpa using hg
          omega
        rw[hlz,hra,leastE_some,if_pos hj60]
        rfl
      · conv=>whnf
        refine (c158 u _ _).val fun H4 hs4=>?_
        conv=>whnf
        have hj60:¬ 60 < j:=by
          have:m≤60:=by simpa using hg
          omega
        rw[hlz,hra,leastE_some,if_neg hj60]
        refine if_intro (fun hw=>?_) (fun hw=>?_)
        · conv=>whnf
          rw[if_neg (not_all hw)]
          rfl
        · conv=>whnf
          refine (c170 u _ _).val fun H5 hs5=>?_
          conv=>whnf
          rw[if_pos (yes_all hw),← hm]
          rfl
end Go.Proofs.YtgbhgfdgifkdhaaGreat

namespace Go.Proofs.YtgbhgfdgifkdhaaGreat
open Go.Proofs.YtgbhgfdgifkdhaaGreat.X Go.Proofs.YtgbhgfdgifkdhaaGreat.X.PH
set_option maxRecDepth 100000
def checkF (p : P4) (k:Int):Int:=if decide (k < 0) || decide (k > 60) then 3 else if p.list.all (inN 1073741824) then 0 else 8
theorem c93 (p : P4) (k:Int) (H:PH):Cl Tryz.prog 135 [p.num k] H emp fun v _ _=>v=.int .i64 (checkF p k):=by
  refine Cl_of (pol:=polL) Γok Tryz.func135 (by kernel_rfl) rfl ?_
  conv=>whnf
  repeat (intro _;conv=>whnf)
  refine if_intro (fun h1=>?_) (fun h1=>?_)
  · conv=>whnf
    unfold checkF
    rw[h1]
    rfl
  conv=>whnf
  refine if_intro (fun h2=>?_) (fun h2=>?_)
  · conv=>whnf
    unfold checkF
    rw[h2,Bool.or_true]
    rfl
  conv=>whnf
  refine (c151 p k _).val fun H1 hs1=>?_
  conv=>whnf
  refine (c157 p k _).val fun H2 hs2=>?_
  conv=>whnf
  refine (c158 p _ _).val fun H3 hs3=>?_
  conv=>whnf
  unfold checkF
  rw[h1,h2]
  refine if_intro (fun h3=>?_) (fun h3=>?_)
  · conv=>whnf
    rw[show p.list.all (inN 1073741824)=false by simpa only[Bool.not_eq_true'] using h3]
    rfl
  · conv=>whnf
    rw[yes_all h3]
    rfl
def LeastF (p : P4) (k:Int):(P4 × Int) × Int:=if checkF p k=0 then leastF p k else ((P4.zero,0),checkF p k)
def ne (x : (P4 × Int) × Int):Value:=.tuple #[nv x.1,.int .i64 x.2]
theorem checkF_range {p : P4} {k:Int} (h:checkF p k=0):0≤k∧k≤60∧p.list.all (inN 1073741824)=true:=by
  unfold checkF at h
  split at h
  · cases h
  · rename_i hk
    split at h
    · rename_i hp
      simp at hk
      exact⟨by omega,by omega,hp⟩
    · cases h
theorem c83 (p : P4) (k:Int) (H:PH):Cl Tryz.prog 94 [p.num k] H emp fun v _ _=>v=ne (LeastF p k):=by
  refine Cl_of (pol:=polL) Γok Tryz.func94 (by kernel_rfl) rfl ?_
  conv=>whnf
  repeat (intro _;conv=>whnf)
  refine (c93 p k _).val fun H1 hs1=>?_
  conv=>whnf
  unfold LeastF
  refine if_intro (fun h1=>?_) (fun h1=>?_)
  · conv=>whnf
    rw[if_neg (by simpa using h1)]
    rfl
  · have h0:checkF p k=0:=by simpa using h1
    obtain⟨k1,k2,_⟩:=checkF_range h0
    rw[if_pos h0]
    conv=>whnf
    refine (c151 p k _).val fun H2 hs2=>?_
    conv=>whnf
    refine (c152 p k (by omega) (by omega) _).val fun H3 hs3=>?_
    conv=>whnf
    rfl
end Go.Proofs.YtgbhgfdgifkdhaaGreat

namespace Go.Proofs.YtgbhgfdgifkdhaaGreat
open Go.Proofs.YtgbhgfdgifkdhaaGreat.X Go.Proofs.YtgbhgfdgifkdhaaGreat.X.PH
set_option maxRecDepth 100000
def beyondF (p : P4) (n:Int):Bool:=
  decide (p.a > n) || (decide (p.a < IntKind.i64.wrap (0 - n)) || (decide (p.b > n) || (decide (p.b < IntKind.i64.wrap (0 - n)) || (decide (p.c > n) || (decide (p.c < IntKind.i64.wrap (0 - n)) || (decide (p.d > n) || decide (p.d < IntKind.i64.wrap (0 - n))))))))
theorem c164 (p : P4) (k n:Int) (H:PH):Cl Tryz.prog 212 [p.num k,.int .i64 n] H emp fun v _ _=>v=.bool (beyondF p n):=by
  refine Cl_of (pol:=polL) Γok Tryz.func212 (by kernel_rfl) rfl ?_
  conv=>whnf
  repeat (intro _;conv=>whnf)
  unfold beyondF
  repeat' (refine if_intro (fun h=>?_) (fun h=>?_)<;>((try rw[h]);conv=>whnf))
  all_goals simp_all
theorem c137 (p : P4) (k:Int) (H:PH):Cl Tryz.prog 189 [p.num k] H emp fun v _ _=>v=.bool p.isZero:=by
  refine Cl_of (pol:=polL) Γok Tryz.func189 (by kernel_rfl) rfl ?_
  conv=>whnf
  repeat (intro _;conv=>whnf)
  unfold P4.isZero
  repeat' (refine if_intro (fun h=>?_) (fun h=>?_)<;>((try rw[h]);conv=>whnf))
  all_goals simp_all
def low (x : Int):Int:=IntKind.i64.wrap (BitVec.ofInt IntKind.i64.bits x &&& BitVec.ofInt IntKind.i64.bits 1).toNat
def evenR (p : P4):Bool:=(low p.a == low p.c) && (low p.b == low p.d)
theorem c138 (p : P4) (k:Int) (H:PH):Cl Tryz.prog 190 [p.num k] H emp fun v _ _=>v=.bool (evenR p):=by
  refine Cl_of (pol:=polL) Γok Tryz.func190 (by kernel_rfl) rfl ?_
  conv=>whnf
  repeat (intro _;conv=>whnf)
  unfold evenR low
  repeat' (refine if_intro (fun h=>?_) (fun h=>?_)<;>((try rw[h]);conv=>whnf))
  all_goals rfl
def shr1 (x : Int):Int:=x.fdiv (2 ^ (min (1:Int).toNat IntKind.i64.bits))
def halvedR (p : P4):P4:=⟨wr (shr1 p.b - shr1 p.d),wr (wr (shr1 p.a+shr1 p.c)+low p.a),wr (wr (shr1 p.b+shr1 p.d)+low p.b),wr (shr1 p.c - shr1 p.a)⟩
theorem c139 (p : P4) (k:Int) (H:PH):Cl Tryz.prog 191 [p.num k] H emp fun v _ _=>v=(halvedR p).num k:=by
  refine Cl_of (pol:=polL) Γok Tryz.func191 (by kernel_rfl) rfl ?_
  conv=>whnf
  repeat (intro _;conv=>whnf)
  rfl
def checkR (p : P4) (k:Int):Int:=if decide (k < 0) || decide (k > 60) then 3 else if beyondF p 1073741824 then 8 else 0
theorem c108 (p : P4) (k:Int) (H:PH):Cl Tryz.prog 130 [p.num k] H emp fun v _ _=>v=.int .i64 (checkR p k):=by
  refine Cl_of (pol:=polL) Γok Tryz.func130 (by kernel_rfl) rfl ?_
  conv=>whnf
  repeat (intro _;conv=>whnf)
  unfold checkR
  refine if_intro (fun h1=>?_) (fun h1=>?_)
  · conv=>whnf
    rw[h1]
    rfl
  conv=>whnf
  refine if_intro (fun h2=>?_) (fun h2=>?_)
  · conv=>whnf
    rw[h2,Bool.or_true]
    rfl
  conv=>whnf
  refine (c164 p k _ _).val fun H1 hs1=>?_
  conv=>whnf
  rw[h1,h2]
  refine if_intro (fun h3=>?_) (fun h3=>?_)
  · conv=>whnf
    rw[h3]
    rfl
  · conv=>whnf
    rw[h3]
    rfl
def lowerR : Nat→P4→P4 × Nat
  | 0,p=>(p,0)
  | k+1,p=>if evenR p then lowerR k (halvedR p) else (p,k+1)
def formR (p : P4) (k:Int):P4 × Int:=if p.isZero then (P4.zero,0) else if 0 < k then ((lowerR k.toNat p).1,(lowerR k.toNat p).2) else (p,k)
theorem c72 (p : P4) (k:Int) (h1:-9223372036854775808≤k) (h2:k < 9223372036854775808) (H:PH):Cl Tryz.prog 104 [p.num k] H emp fun v _ _=>v=nv (formR p k):=by
  refine Cl_of (pol:=polL) Γok Tryz.func104 (by kernel_rfl) rfl ?_
  conv=>whnf
  repeat (intro _;conv=>whnf)
  refine (c137 p k _).val fun H1 hs1=>?_
  conv=>whnf
  refine if_intro (fun hz=>?_) (fun hz=>?_)
  · conv=>whnf
    unfold formR
    rw[if_pos hz]
    rfl
  conv=>whnf
  refine W_loopX (pol:=polL) Γok (P4 × Int × PH) (fun i=>Sub H1 i.2.2∧((0 < k∧0≤i.2.1∧i.2.1≤k∧lowerR k.toNat p=lowerR i.2.1.toNat i.1)∨(k≤0∧i.1=p∧i.2.1=k))) (fun i=>i.2.1.toNat) (fun e i=>e=.exit 0∧formR p k=(i.1,i.2.1))
    (fun i=>[])
    (fun i=>[(0,[.int .i64 i.1.a,.int .i64 i.1.b,.int .i64 i.1.c,.int .i64 i.1.d,.int .i64 i.2.1])]) (fun i=>i.2.2) (fun _=>emp) ⟨(p,k,H1),⟨Sub.refl _,?_⟩,rfl,rfl,?_⟩ ?_ ?_
  · rcases Int.lt_or_le 0 k with h | h
    · exact .inl ⟨h,by dsimp only;omega,Int.le_refl _,rfl⟩
    · exact .inr ⟨h,rfl,rfl⟩
  · conv=>whnf
    repeat (first | (refine⟨rfl,?_⟩;conv=>whnf) | (refine dec_intro (by decide) ?_;conv=>whnf))
    exact trivial
  · rintro ⟨q,j,H'⟩ ⟨hs,hj⟩
    dsimp only at hs hj
    conv=>whnf
    refine if_intro (fun hg=>?_) (fun hg=>?_)
    · conv=>whnf
      refine (c138 q j _).val fun H2 hs2=>?_
      conv=>whnf
      have hj0:0 < j:=by simpa using hg
      refine if_intro (fun he=>?_) (fun he=>?_)
      · conv=>whnf
        refine (c139 q j _).val fun H3 hs3=>?_
        conv=>whnf
        refine⟨(halvedR q,j - 1,H3),⟨hs.trans (hs2.trans hs3),?_⟩,by dsimp only;omega,?_⟩
        · rcases hj with⟨k1,k2,k3,k4⟩ | ⟨k1,k2,k3⟩
          · refine .inl ⟨k1,by dsimp only;omega,by dsimp only;omega,?_⟩
            rw[k4]
            have:j.toNat=(j - 1).toNat+1:=by omega
            rw[this]
            simp[lowerR,he]
          · omega
        · conv=>whnf
          refine⟨rfl,rfl,?_⟩
          conv=>whnf
          repeat (refine⟨rfl,?_⟩;conv=>whnf)
          refine⟨by rw[wrap_id (by omega) (by omega)],?_⟩
          conv=>whnf
          repeat (refine⟨rfl,?_⟩;conv=>whnf)
          exact trivial
      · conv=>whnf
        refine .inr ⟨(q,j,H2),⟨rfl,?_⟩,?_⟩
        · unfold formR
          rw[if_neg (by rw[hz];simp)]
          rcases hj with⟨k1,k2,k3,k4⟩ | ⟨k1,k2,k3⟩
          · rw[if_pos k1,k4,show j.toNat=(j - 1).toNat+1 by omega]
            simp only[lowerR,he,Prod.mk.injEq,true_and]
            simp
            omega
          · omega
        · conv=>whnf
          refine⟨rfl,rfl,?_⟩
          conv=>whnf
          repeat (first | (refine⟨rfl,?_⟩;conv=>whnf) | (refine dec_intro (by decide) ?_;conv=>whnf))
          exact trivial
    · conv=>whnf
      have hj0:j≤0:=by simpa using hg
      refine .inr ⟨(q,j,H'),⟨rfl,?_⟩,?_⟩
      · unfold formR
        rw[if_neg (by rw[hz];simp)]
        rcases hj with⟨k1,k2,k3,k4⟩ | ⟨k1,k2,k3⟩
        · rw[if_pos k1,k4,show j.toNat=0 by omega]
          simp only[lowerR,Prod.mk.injEq,true_and]
          omega
        · rw[if_neg (by omega),k2,k3]
      · conv=>whnf
        refine⟨rfl,rfl,?_⟩
        conv=>whnf
        repeat (first | (refine⟨rfl,?_⟩;conv=>whnf) | (refine dec_intro (by decide) ?_;conv=>whnf))
        exact trivial
  · rintro e ⟨q,j,H2⟩ ⟨rfl,hlow⟩
    dsimp only at hlow
    conv=>whnf
    rw[hlow]
    rfl
end Go.Proofs.YtgbhgfdgifkdhaaGreat

namespace Go.Proofs.YtgbhgfdgifkdhaaGreat
open Go.Proofs.YtgbhgfdgifkdhaaGreat.X Go.Proofs.YtgbhgfdgifkdhaaGreat.X.PH
set_option maxRecDepth 100000
theorem seg {α β : Type} (f:β→List α) (sz:Nat) (h:∀ x,(f x).length=sz):∀ (l:List β) (i:Nat) (hi:i < l.length),((l.map f).flatten.drop (i*sz)).take sz=f l[i]
  | x::l,0,_=>by simp[h x]
  | x::l,i+1,hi=>by
    have hi':i < l.length:=by simpa using hi
    have:=seg f sz h l i hi'
    rw[List.map_cons,List.flatten_cons,Nat.succ_mul,Nat.add_comm,← List.drop_drop]
    rw[show List.drop sz (f x++(l.map f).flatten)=(l.map f).flatten by rw[← h x];simp]
    exact this
def cellsOf (x : P4 × Int):List Value:=[.int .i64 x.1.a,.int .i64 x.1.b,.int .i64 x.1.c,.int .i64 x.1.d,.int .i64 x.2]
def cellsN (l : List (P4 × Int)):List Value:=(l.map cellsOf).flatten
theorem cellsN_length (l : List (P4 × Int)):(cellsN l).length=l.length*5:=by
  induction l with
  | nil=>rfl
  | cons x l ih=>simp[cellsN,cellsOf,Nat.succ_mul] at ih ⊢;exact ih
def NumH (H : PH) (v:Value) (l:List (P4 × Int)):Prop:=SlH H v l.length (cellsN l)
theorem NumH.up {H H' : PH} {v:Value} {l:List (P4 × Int)} (h:NumH H v l) (hs:Sub H H'):NumH H' v l:=SlH.up h hs
theorem NumH.rd {H O : PH} {base:Option Addr} {n cap:Nat} {l:List (P4 × Int)} (h:NumH H (.slice base n cap) l) {i:Nat} (hi:i < l.length) :
    n=l.length∧∃ b off,base=some ⟨b,off,none⟩∧Rd H O ⟨b,off+i*5,none⟩ 5 (cellsOf l[i]):=by
  obtain⟨_,_,hv,_⟩:=id h
  cases hv
  refine⟨rfl,?_⟩
  obtain⟨b,off,h1,h2⟩:=SlH.rd (O:=O) h (cellsN_length l) hi
  refine⟨b,off,h1,?_⟩
  rw[cellsN,seg cellsOf 5 (fun _=>rfl) l i hi] at h2
  exact h2
def firstErr : List Int→Int
  | []=>0
  | e::l=>if e=0 then firstErr l else e
def errsR (l : List (P4 × Int)):Int:=firstErr (l.map fun x=>checkR x.1 x.2)
theorem errsR_step {l : List (P4 × Int)} {i:Nat} (hi:i < l.length):errsR (l.drop i)=if checkR l[i].1 l[i].2=0 then errsR (l.drop (i+1)) else checkR l[i].1 l[i].2:=by
  rw[List.drop_eq_getElem_cons hi]
  rfl
theorem c94 (l : List (P4 × Int)) (H:PH) (v:Value) (hv:NumH H v l) (hlen:l.length < 9223372036854775808):Cl Tryz.prog 152 [v] H emp fun r _ _=>r=.int .i64 (errsR l):=by
  obtain⟨base,cap,rfl,_⟩:=id hv
  refine Cl_of (pol:=polL) Γok Tryz.func152 (by kernel_rfl) rfl ?_
  conv=>whnf
  refine W_loop (pol:=polL) Γok (Nat × PH) (fun i=>i.1≤l.length∧Sub H i.2∧errsR l=errsR (l.drop i.1)) (fun i=>l.length - i.1) (fun i=>[(3,.v (.int .i64 i.1))]) (fun _=>[]) (fun i=>i.2) (fun _=>emp) ⟨(0,H),⟨by simp,Sub.refl _,by simp⟩,rfl,rfl,?_⟩ ?_
  · conv=>whnf
    repeat (refine⟨rfl,?_⟩;conv=>whnf)
    exact trivial
  · rintro ⟨i,H'⟩ ⟨h1,h2,h3⟩
    dsimp only at h1 h2 h3
    conv=>whnf
    refine if_intro (fun h=>?_) (fun h=>?_)
    · have hi:i < l.length:=by simpa using h
      obtain⟨_,b,off,rfl,hrd⟩:=(hv.up h2).rd (O:=emp) hi
      conv=>whnf
      refine dec_intro (by simpa using hi) ?_
      conv=>whnf
      refine⟨_,hrd,?_⟩
      conv=>whnf
      refine (c108 l[i].1 l[i].2 _).val fun H2 hs=>?_
      conv=>whnf
      have hst:=errsR_step hi
      refine if_intro (fun he=>?_) (fun he=>?_)
      · conv=>whnf
        rw[h3,hst,if_neg (by simpa using he)]
      · conv=>whnf
        refine⟨(i+1,H2),⟨hi,h2.trans hs,?_⟩,by dsimp only;omega,?_⟩
        · rw[h3,hst,if_pos (by simpa using he)]
        · conv=>whnf
          refine⟨rfl,rfl,?_⟩
          conv=>whnf
          repeat (refine⟨rfl,?_⟩;conv=>whnf)
          refine⟨by show En.v (.int .i64 (IntKind.i64.wrap (i+1)))=_;rw[wrap_id (by omega) (by omega)];rfl,?_⟩
          conv=>whnf
          repeat (refine⟨rfl,?_⟩;conv=>whnf)
          exact trivial
    · have hi:l.length≤i:=by simpa using h
      conv=>whnf
      rw[h3,List.drop_of_length_le hi]
      rfl
end Go.Proofs.YtgbhgfdgifkdhaaGreat

namespace Go.Proofs.YtgbhgfdgifkdhaaGreat
open Go.Proofs.YtgbhgfdgifkdhaaGreat.X Go.Proofs.YtgbhgfdgifkdhaaGreat.X.PH
set_option maxRecDepth 100000
def MatH (H : PH) (v:Value) (m:List (List (P4 × Int))):Prop:=
  ∃ vs:List Value,vs.length=m.length∧SlH H v m.length vs∧∀ (i:Nat) (r:List (P4 × Int)) (u:Value),m[i]?=some r→vs[i]?=some u→NumH H u r
theorem MatH.up {H H' : PH} {v:Value} {m:List (List (P4 × Int))} (h:MatH H v m) (hs:Sub H H'):MatH H' v m:=by
  obtain⟨vs,h1,h2,h3⟩:=h
  exact⟨vs,h1,h2.up hs,fun i r u hr hu=>(h3 i r u hr hu).up hs⟩
theorem MatH.rd {H O : PH} {base:Option Addr} {n cap:Nat} {m:List (List (P4 × Int))} (h:MatH H (.slice base n cap) m) {i:Nat} (hi:i < m.length) :
    ∃ b off base' cap',base=some ⟨b,off,none⟩∧Rd H O ⟨b,off+i*1,none⟩ 1 [.slice base' m[i].length cap']∧NumH H (.slice base' m[i].length cap') m[i]:=by
  obtain⟨vs,h1,h2,h3⟩:=h
  obtain⟨_,_,hv,_⟩:=id h2
  cases hv
  obtain⟨b,off,hb,hrd⟩:=SlH.rd (O:=O) (sz:=1) h2 (by rw[h1,Nat.mul_one]) hi
  have hiv:i < vs.length:=by omega
  have e:(List.take 1 (List.drop (i*1) vs))=[vs[i]]:=by
    rw[Nat.mul_one,List.drop_eq_getElem_cons hiv,List.take_succ_cons,List.take_zero]
  rw[e] at hrd
  have hn:=h3 i m[i] vs[i] (List.getElem?_eq_getElem hi) (List.getElem?_eq_getElem hiv)
  obtain⟨base',cap',hu,_⟩:=id hn
  rw[hu] at hrd hn
  exact⟨b,off,base',cap',hb,hrd,hn⟩
def badRow (m : List (List (P4 × Int))) (r:List (P4 × Int)):Bool:=decide ((r.length:Int) < 1) || (decide ((r.length:Int) > 64) || ((r.length:Int) != ((m.headD []).length:Int)))
def checkMR (m : List (List (P4 × Int))):Int:=
  if decide ((m.length:Int) < 1) || decide ((m.length:Int) > 64) then 2 else if m.any (badRow m) then 2 else firstErr (m.map errsR)
theorem firstErr_step {α : Type} (f:α→Int) {l:List α} {i:Nat} (hi:i < l.length):firstErr ((l.drop i).map f)=if f l[i]=0 then firstErr ((l.drop (i+1)).map f) else f l[i]:=by
  rw[List.drop_eq_getElem_cons hi]
  rfl
theorem c30 (m : List (List (P4 × Int))) (H:PH) (v:Value) (hv:MatH H v m):Cl Tryz.prog 67 [v] H emp fun r _ _=>r=.int .i64 (checkMR m):=by
  obtain⟨base,cap,rfl⟩:∃ base cap,v=.slice base m.length cap:=by
    obtain⟨_,_,⟨b,c,h,_⟩,_⟩:=hv
    exact⟨b,c,h⟩
  refine Cl_of (pol:=polL) Γok Tryz.func67 (by kernel_rfl) rfl ?_
  conv=>whnf
  refine if_intro (fun h1=>?_) (fun h1=>?_)
  · conv=>whnf
    unfold checkMR
    rw[h1]
    rfl
  conv=>whnf
  refine if_intro (fun h2=>?_) (fun h2=>?_)
  · conv=>whnf
    unfold checkMR
    rw[h2,Bool.or_true]
    rfl
  have hlen:0 < m.length∧m.length≤64:=by
    simp at h1 h2
    omega
  have hun:checkMR m=if m.any (badRow m) then 2 else firstErr (m.map errsR):=by
    unfold checkMR
    rw[h1,h2]
    rfl
  conv=>whnf
  refine W_loopX (pol:=polL) Γok (Nat × PH) (fun i=>i.1≤m.length∧Sub H i.2∧(m.take i.1).any (badRow m)=false) (fun i=>m.length - i.1) (fun e i=>e=.exit 0∧Sub H i.2∧m.any (badRow m)=false) (fun i=>[(3,.v (.int .i64 i.1))]) (fun _=>[]) (fun i=>i.2) (fun _=>emp) ⟨(0,H),⟨by simp,Sub.refl _,by simp⟩,rfl,rfl,?_⟩ ?_ ?_
  · conv=>whnf
    repeat (refine⟨rfl,?_⟩;conv=>whnf)
    exact trivial
  · rintro ⟨i,H'⟩ ⟨k1,k2,k3⟩
    dsimp only at k1 k2 k3
    conv=>whnf
    refine if_intro (fun h=>?_) (fun h=>?_)
    · have hi:i < m.length:=by simpa using h
      obtain⟨b,off,base',cap',rfl,hrd,hn⟩:=(hv.up k2).rd (O:=emp) hi
      obtain⟨b0,off0,base0,cap0,hb0,hrd0,hn0⟩:=(hv.up k2).rd (O:=emp) hlen.1
      cases hb0
      conv=>whnf
      refine W_draw (pol:=polL) Γok mixes [(0,.pendO),(1,.pendO),(2,.pendO),(3,.pendO),(4,.pendO),(5,.pendO),(6,.pendO),(7,.pendO),(8,.pendO),(9,.pendO),(10,.pendO),(11,.pendO),(12,.pendO),(13,.pendO),(14,.pendO),(15,.pendO),(16,.pendO),(17,.pendO),(18,.pendO),(19,.pendO),(20,.pendO),(21,.pendO),(22,.pendO),(23,.pendO),(24,.pendO),(25,.pendO)] 60 (by kernel_rfl) rfl ?_
      conv=>whnf
      refine dec_intro (by simpa using hi) ?_
      conv=>whnf
      refine⟨_,hrd,?_⟩
      conv=>whnf
      have step:∀ H3,Sub H' H3→badRow m m[i]=false→(m.take (i+1)).any (badRow m)=false:=by
        intro H3 _ hb
        rw[List.take_succ_eq_append_getElem hi,List.any_append,k3]
        simpa using hb
      have stop:badRow m m[i]=true→checkMR m=2:=by
        intro hb
        rw[hun,if_pos (List.any_eq_true.2 ⟨_,List.getElem_mem hi,hb⟩)]
      refine if_intro (fun a1=>?_) (fun a1=>?_)
      · conv=>whnf
        refine .inl ?_
        conv=>whnf
        rw[stop (by unfold badRow;rw[a1];rfl)]
      conv=>whnf
      refine dec_intro (by simpa using hi) ?_
      conv=>whnf
      refine⟨_,hrd,?_⟩
      conv=>whnf
      refine if_intro (fun a2=>?_) (fun a2=>?_)
      · conv=>whnf
        refine .inl ?_
        conv=>whnf
        rw[stop (by unfold badRow;rw[a1,a2];rfl)]
      conv=>whnf
      refine dec_intro (by simpa using hi) ?_
      conv=>whnf
      refine⟨_,hrd,?_⟩
      conv=>whnf
      refine dec_intro (by have:=hlen.1;simpa using this) ?_
      conv=>whnf
      refine⟨_,hrd0,?_⟩
      conv=>whnf
      have hd:m.headD []=m[0]'hlen.1:=by
        cases m with
        | nil=>simp at hlen
        | cons r m=>rfl
      refine if_intro (fun a3=>?_) (fun a3=>?_)
      · conv=>whnf
        refine .inl ?_
        conv=>whnf
        rw[stop (by unfold badRow;rw[a1,a2,hd];simpa using a3)]
      · conv=>whnf
        refine⟨(i+1,H'),⟨hi,k2,step H' (Sub.refl _) (by unfold badRow;rw[a1,a2,hd];simpa using a3)⟩,by dsimp only;omega,?_⟩
        conv=>whnf
        refine⟨rfl,rfl,?_⟩
        conv=>whnf
        repeat (refine⟨rfl,?_⟩;conv=>whnf)
        refine⟨by show En.v (.int .i64 (IntKind.i64.wrap (i+1)))=_;rw[wrap_id (by omega) (by omega)];rfl,?_⟩
        conv=>whnf
        repeat (refine⟨rfl,?_⟩;conv=>whnf)
        exact trivial
    · have hi:m.length≤i:=by simpa using h
      conv=>whnf
      refine .inr ⟨(i,H'),⟨rfl,k2,?_⟩,?_⟩
      · rw[List.take_of_length_le hi] at k3;exact k3
      · conv=>whnf
        refine⟨rfl,rfl,?_⟩
        conv=>whnf
        repeat (first | (refine⟨rfl,?_⟩;conv=>whnf) | (refine dec_intro (by decide) ?_;conv=>whnf))
        exact trivial
  · rintro e ⟨j,H2⟩ ⟨rfl,hs2,hany⟩
    dsimp only at hs2
    have hun:checkMR m=firstErr (m.map errsR):=by rw[hun,hany];rfl
    conv=>whnf
    refine W_loop (pol:=polL) Γok (Nat × PH) (fun i=>i.1≤m.length∧Sub H i.2∧firstErr (m.map errsR)=firstErr ((m.drop i.1).map errsR)) (fun i=>m.length - i.1) (fun i=>[(4,.v (.int .i64 i.1))]) (fun _=>[]) (fun i=>i.2) (fun _=>emp) ⟨(0,H2),⟨by simp,hs2,by simp⟩,rfl,rfl,?_⟩ ?_
    · conv=>whnf
      repeat (refine⟨rfl,?_⟩;conv=>whnf)
      exact trivial
    · rintro ⟨i,H'⟩ ⟨k1,k2,k3⟩
      dsimp only at k1 k2 k3
      conv=>whnf
      refine if_intro (fun h=>?_) (fun h=>?_)
      · have hi:i < m.length:=by simpa using h
        obtain⟨b,off,base',cap',rfl,hrd,hn⟩:=(hv.up k2).rd (O:=emp) hi
        conv=>whnf
        refine dec_intro (by simpa using hi) ?_
        conv=>whnf
        refine⟨_,hrd,?_⟩
        conv=>whnf
        refine (c94 m[i] _ _ hn ?_).val fun H3 hs=>?_
        · have:=List.any_eq_false.1 hany m[i] (List.getElem_mem hi)
          unfold badRow at this
          simp at this
          omega
        conv=>whnf
        have hst:=firstErr_step errsR hi
        refine if_intro (fun he=>?_) (fun he=>?_)
        · conv=>whnf
          rw[hun,k3,hst,if_neg (by simpa using he)]
        · conv=>whnf
          refine⟨(i+1,H3),⟨hi,k2.trans hs,?_⟩,by dsimp only;omega,?_⟩
          · rw[k3,hst,if_pos (by simpa using he)]
          · conv=>whnf
            refine⟨rfl,rfl,?_⟩
            conv=>whnf
            repeat (refine⟨rfl,?_⟩;conv=>whnf)
            refine⟨by show En.v (.int .i64 (IntKind.i64.wrap (i+1)))=_;rw[wrap_id (by omega) (by omega)];rfl,?_⟩
            conv=>whnf
            repeat (refine⟨rfl,?_⟩;conv=>whnf)
            exact trivial
      · have hi:m.length≤i:=by simpa using h
        conv=>whnf
        rw[hun,k3,List.drop_of_length_le hi]
        rfl
end Go.Proofs.YtgbhgfdgifkdhaaGreat

namespace Go.Proofs.YtgbhgfdgifkdhaaGreat
open Go.Proofs.YtgbhgfdgifkdhaaGreat.X Go.Proofs.YtgbhgfdgifkdhaaGreat.X.PH
set_option maxRecDepth 100000
abbrev NumO (O : PH) (v:Value) (l:List (P4 × Int)):Prop:=OwnS O 5 33 v (l.map cellsOf)
def formsR (l : List (P4 × Int)):List (P4 × Int):=l.map fun x=>formR x.1 x.2
theorem cellsOf_one (x : P4 × Int):∀ v∈cellsOf x,v.oneCell'=true:=by
  intro v hv
  simp[cellsOf] at hv
  rcases hv with rfl | rfl | rfl | rfl | rfl<;>rfl
theorem c154 (l : List (P4 × Int)) (H:PH) (v:Value) (hv:NumH H v l) (hlen:l.length≤100000) (hk:∀ x∈l,-9223372036854775808≤x.2∧x.2 < 9223372036854775808) :
    Cl Tryz.prog 220 [v] H emp fun r H' M'=>NumO M' r (formsR l):=by
  obtain⟨base,cap,rfl,_⟩:=id hv
  refine Cl_of (pol:=fun | 17=>.imm | _=>.loc) Γok Tryz.func220 (by kernel_rfl) rfl ?_
  conv=>whnf
  refine W_loop (pol:=fun | 17=>.imm | _=>.loc) Γok (Nat × PH × Value × PH) (fun i=>i.1≤l.length∧Sub H i.2.1∧NumO i.2.2.2 i.2.2.1 (formsR (l.take i.1))) (fun i=>l.length - i.1) (fun i=>[(4,.v (.int .i64 i.1)),(3,.v i.2.2.1)]) (fun _=>[]) (fun i=>i.2.1) (fun i=>i.2.2.2) ⟨(0,H,.slice none 0 0,emp),⟨by simp,Sub.refl _,?_⟩,rfl,rfl,?_⟩ ?_
  · exact⟨by simp[formsR],.inl ⟨rfl,by simp[formsR]⟩⟩
  · conv=>whnf
    repeat (refine⟨rfl,?_⟩;conv=>whnf)
    exact trivial
  · rintro ⟨i,H',out,O'⟩ ⟨h1,h2,h3⟩
    dsimp only at h1 h2 h3
    conv=>whnf
    refine if_intro (fun h=>?_) (fun h=>?_)
    · have hi:i < l.length:=by simpa using h
      obtain⟨_,b,off,rfl,hrd⟩:=(hv.up h2).rd (O:=O') hi
      have hki:=hk l[i] (List.getElem_mem hi)
      conv=>whnf
      refine dec_intro (by simpa using hi) ?_
      conv=>whnf
      refine⟨_,hrd,?_⟩
      conv=>whnf
      refine (c72 l[i].1 l[i].2 hki.1 hki.2 _).val fun H2 hs=>?_
      conv=>whnf
      intro b2 hb2 hO2
      conv=>whnf
      refine append_one (xs:=(formsR (l.take i)).map cellsOf) (y:=cellsOf (formR l[i].1 l[i].2)) h3 rfl rfl (cellsOf_one _) ⟨_,_,_,rfl,rfl,Rd.whole (ins_same _ _ _)⟩ ?_ fun v O2 hO2 hfr=>?_
      · have:(formsR (l.take i)).length≤l.length:=by simp[formsR];omega
        simp only[List.length_map]
        omega
      conv=>whnf
      refine⟨(i+1,ins H2 b2 (.cells ⟨cellsOf (formR l[i].1 l[i].2)⟩ 33 (0,0)),v,O2),⟨hi,(h2.trans hs).trans (sub_ins _ _ hb2),?_⟩,by dsimp only;omega,?_⟩
      · dsimp only
        rw[List.take_succ_eq_append_getElem hi]
        show OwnS O2 5 33 v ((formsR (l.take i++[l[i]])).map cellsOf)
        simp only[formsR,List.map_append,List.map_cons,List.map_nil] at hO2 ⊢
        exact hO2
      · conv=>whnf
        refine⟨rfl,rfl,?_⟩
        conv=>whnf
        repeat (refine⟨rfl,?_⟩;conv=>whnf)
        refine⟨by show En.v (.int .i64 (IntKind.i64.wrap (i+1)))=_;rw[wrap_id (by omega) (by omega)];rfl,?_⟩
        conv=>whnf
        repeat (refine⟨rfl,?_⟩;conv=>whnf)
        exact trivial
    · have hi:l.length≤i:=by simpa using h
      conv=>whnf
      rw[List.take_of_length_le hi] at h3
      exact h3
theorem NumO.pub {H M : PH} {v:Value} {l:List (P4 × Int)} (hd:Dis H M) (h:NumO M v l):∃ H' M',Repart H M H' M'∧NumH H' v l:=by
  obtain⟨h1,h⟩:=h
  rcases h with⟨rfl,h⟩ | ⟨b,cap,spare,rfl,hO,hcap,hsp⟩
  · have:l=[]:=by simpa using h
    subst this
    exact⟨H,M,.refl hd,none,0,rfl,.inl ⟨rfl,rfl⟩⟩
  · refine⟨_,_,.one hd hO,some ⟨b,0,none⟩,cap,by simp,.inr ⟨b,0,_,_,_,rfl,ins_same _ _ _,?_⟩⟩
    simp[cellsN]
theorem c154' (l : List (P4 × Int)) (H:PH) (v:Value) (hv:NumH H v l) (hlen:l.length≤100000) (hk:∀ x∈l,-9223372036854775808≤x.2∧x.2 < 9223372036854775808) :
    Cl Tryz.prog 220 [v] H emp fun r H' _=>NumH H' r (formsR l):=
  (c154 l H v hv hlen hk).repart fun _ _ _ _ hd h=>by
    obtain⟨H',M',h1,h2⟩:=NumO.pub hd h
    exact⟨H',M',h1,h2⟩
end Go.Proofs.YtgbhgfdgifkdhaaGreat

namespace Go.Proofs.YtgbhgfdgifkdhaaGreat
open Go.Proofs.YtgbhgfdgifkdhaaGreat.X Go.Proofs.YtgbhgfdgifkdhaaGreat.X.PH
set_option maxRecDepth 100000
def RowsH (H : PH) (us:List Value) (m:List (List (P4 × Int))):Prop:=us.length=m.length∧∀ (i:Nat) (r:List (P4 × Int)) (u:Value),m[i]?=some r→us[i]?=some u→NumH H u r
theorem RowsH.up {H H' : PH} {us:List Value} {m:List (List (P4 × Int))} (h:RowsH H us m) (hs:Sub H H'):RowsH H' us m:=⟨h.1,fun i r u hr hu=>(h.2 i r u hr hu).up hs⟩
theorem RowsH.snoc {H : PH} {us:List Value} {m:List (List (P4 × Int))} {u:Value} {r:List (P4 × Int)} (h:RowsH H us m) (hu:NumH H u r):RowsH H (us++[u]) (m++[r]):=by
  refine⟨by simp[h.1],fun i r' u' hr hu'=>?_⟩
  rcases Nat.lt_trichotomy i m.length with hi | hi | hi
  · rw[List.getElem?_append_left hi] at hr
    rw[List.getElem?_append_left (by rw[h.1];exact hi)] at hu'
    exact h.2 i r' u' hr hu'
  · subst hi
    rw[← h.1] at hu'
    simp at hr hu'
    subst hr hu'
    exact hu
  · rw[List.getElem?_eq_none (by simp;omega)] at hr
    cases hr
theorem slice_one {H : PH} {u:Value} {r:List (P4 × Int)} (h:NumH H u r):∀ v∈[u],v.oneCell'=true:=by
  obtain⟨_,_,rfl,_⟩:=h
  intro v hv
  simp at hv
  subst hv
  rfl
theorem c87 (m : List (List (P4 × Int))) (H:PH) (v:Value) (hv:MatH H v m) (hlen:m.length≤100000) (hrow:∀ r∈m,r.length≤100000) (hk:∀ r∈m,∀ x∈r,-9223372036854775808≤x.2∧x.2 < 9223372036854775808) :
    Cl Tryz.prog 148 [v] H emp fun r H' M'=>∃ us,OwnS M' 1 31 r (us.map fun u=>[u])∧RowsH H' us (m.map formsR):=by
  obtain⟨base,cap,rfl⟩:∃ base cap,v=.slice base m.length cap:=by
    obtain⟨_,_,⟨b,c,h,_⟩,_⟩:=hv
    exact⟨b,c,h⟩
  refine Cl_of (pol:=fun | 17=>.imm | _=>.loc) Γok Tryz.func148 (by kernel_rfl) rfl ?_
  conv=>whnf
  refine W_loop (pol:=fun | 17=>.imm | _=>.loc) Γok (Nat × PH × Value × PH) (fun i=>i.1≤m.length∧Sub H i.2.1∧∃ us,OwnS i.2.2.2 1 31 i.2.2.1 (us.map fun u=>[u])∧RowsH i.2.1 us ((m.take i.1).map formsR)) (fun i=>m.length - i.1) (fun i=>[(4,.v (.int .i64 i.1)),(3,.v i.2.2.1)]) (fun _=>[]) (fun i=>i.2.1) (fun i=>i.2.2.2) ⟨(0,H,.slice none 0 0,emp),⟨by simp,Sub.refl _,[],?_,?_⟩,rfl,rfl,?_⟩ ?_
  · exact⟨by simp,.inl ⟨rfl,by simp⟩⟩
  · exact⟨by simp,by simp⟩
  · conv=>whnf
    repeat (refine⟨rfl,?_⟩;conv=>whnf)
    exact trivial
  · rintro ⟨i,H',out,O'⟩ ⟨h1,h2,us,h3,h4⟩
    dsimp only at h1 h2 h3 h4
    conv=>whnf
    refine if_intro (fun h=>?_) (fun h=>?_)
    · have hi:i < m.length:=by simpa using h
      obtain⟨b,off,base',cap',rfl,hrd,hn⟩:=(hv.up h2).rd (O:=O') hi
      conv=>whnf
      refine dec_intro (by simpa using hi) ?_
      conv=>whnf
      refine⟨_,hrd,?_⟩
      conv=>whnf
      refine (c154' m[i] _ _ hn (hrow _ (List.getElem_mem hi)) (hk _ (List.getElem_mem hi))).use fun r H2 hs hr=>?_
      obtain⟨_,hr⟩:=hr
      obtain⟨rb,rc,rfl⟩:∃ rb rc,r=.slice rb (formsR m[i]).length rc:=by
        obtain⟨b,c,h,_⟩:=hr
        exact⟨b,c,h⟩
      conv=>whnf
      intro b2 hb2 hO2
      conv=>whnf
      refine append_one (xs:=us.map fun u=>[u]) (y:=[.slice rb (formsR m[i]).length rc]) h3 rfl rfl (slice_one hr) ⟨_,_,_,rfl,rfl,Rd.whole (ins_same _ _ _)⟩ ?_ fun v O2 hO2 hfr=>?_
      · have:=h4.1
        simp at this ⊢
        omega
      conv=>whnf
      have hs2:=sub_ins H2 (.cells ⟨[.slice rb (formsR m[i]).length rc]⟩ 31 (0,0)) hb2
      refine⟨(i+1,ins H2 b2 (.cells ⟨[.slice rb (formsR m[i]).length rc]⟩ 31 (0,0)),v,O2),⟨hi,(h2.trans hs).trans hs2,us++[.slice rb (formsR m[i]).length rc],?_,?_⟩,by dsimp only;omega,?_⟩
      · show OwnS O2 1 31 v _
        rw[List.map_append]
        exact hO2
      · dsimp only
        rw[List.take_succ_eq_append_getElem hi,List.map_append]
        exact (h4.up (hs.trans hs2)).snoc (hr.up hs2)
      · conv=>whnf
        refine⟨rfl,rfl,?_⟩
        conv=>whnf
        repeat (refine⟨rfl,?_⟩;conv=>whnf)
        refine⟨by show En.v (.int .i64 (IntKind.i64.wrap (i+1)))=_;rw[wrap_id (by omega) (by omega)];rfl,?_⟩
        conv=>whnf
        repeat (refine⟨rfl,?_⟩;conv=>whnf)
        exact trivial
    · have hi:m.length≤i:=by simpa using h
      conv=>whnf
      rw[List.take_of_length_le hi] at h4
      exact⟨us,h3,h4⟩
theorem OwnS.rows {H M : PH} {v:Value} {us:List Value} {m:List (List (P4 × Int))} (hd:Dis H M) (h:OwnS M 1 31 v (us.map fun u=>[u])) (hr:RowsH H us m):∃ H' M',Repart H M H' M'∧MatH H' v m:=by
  obtain⟨h1,h⟩:=h
  have hl:=hr.1
  rcases h with⟨rfl,h⟩ | ⟨b,cap,spare,rfl,hO,hcap,hsp⟩
  · have:us=[]:=by simpa using h
    subst this
    have:m=[]:=by simpa using hl.symm
    subst this
    exact⟨H,M,.refl hd,[],rfl,⟨none,0,rfl,.inl ⟨rfl,rfl⟩⟩,fun i r u hr=>by simp at hr⟩
  · have hs:=(Repart.one hd hO).sub
    refine⟨_,_,.one hd hO,us,hl,⟨some ⟨b,0,none⟩,cap,by simp[hl],.inr ⟨b,0,_,_,_,rfl,ins_same _ _ _,?_⟩⟩,fun i r u hr' hu=>(hr.2 i r u hr' hu).up hs⟩
    have:∀ us:List Value,(us.map fun u=>[u]).flatten=us:=by
      intro us
      induction us with
      | nil=>rfl
      | cons u us ih=>simp only[List.map_cons,List.flatten_cons,ih];rfl
    show (List.drop 0 ((us.map fun u=>[u]).flatten++spare)).take us.length=us
    rw[this us]
    simp
theorem c87' (m : List (List (P4 × Int))) (H:PH) (v:Value) (hv:MatH H v m) (hlen:m.length≤100000) (hrow:∀ r∈m,r.length≤100000) (hk:∀ r∈m,∀ x∈r,-9223372036854775808≤x.2∧x.2 < 9223372036854775808) :
    Cl Tryz.prog 148 [v] H emp fun r H' _=>MatH H' r (m.map formsR):=
  (c87 m H v hv hlen hrow hk).repart fun _ _ _ _ hd h=>by
    obtain⟨us,h1,h2⟩:=h
    obtain⟨H',M',k1,k2⟩:=OwnS.rows hd h1 h2
    exact⟨H',M',k1,k2⟩
end Go.Proofs.YtgbhgfdgifkdhaaGreat

namespace Go.Proofs.YtgbhgfdgifkdhaaGreat
open Go.Proofs.YtgbhgfdgifkdhaaGreat.X Go.Proofs.YtgbhgfdgifkdhaaGreat.X.PH
set_option maxRecDepth 100000
theorem firstErr_zero : ∀ {l:List Int},firstErr l=0→∀ e∈l,e=0
  | [],_,e,he=>by simp at he
  | x::l,h,e,he=>by
    unfold firstErr at h
    split at h
    · rename_i hx
      rcases List.mem_cons.1 he with rfl | he
      · exact hx
      · exact firstErr_zero h e he
    · rename_i hx;exact absurd h hx
theorem checkR_zero {p : P4} {k:Int} (h:checkR p k=0):0≤k∧k≤60∧beyondF p 1073741824=false:=by
  unfold checkR at h
  split at h
  · cases h
  · rename_i hk
    split at h
    · cases h
    · rename_i hp
      simp at hk
      exact⟨by omega,by omega,by simpa using hp⟩
theorem checkMR_zero {m : List (List (P4 × Int))} (h:checkMR m=0):0 < m.length∧m.length≤64∧(∀ r∈m,0 < r.length∧r.length≤64∧r.length=(m.headD []).length)∧∀ r∈m,∀ x∈r,checkR x.1 x.2=0:=by
  unfold checkMR at h
  split at h
  · cases h
  · rename_i hl
    split at h
    · cases h
    · rename_i hb
      simp at hl
      refine⟨by omega,by omega,fun r hr=>?_,fun r hr x hx=>?_⟩
      · have:=List.any_eq_false.1 (by simpa using hb) r hr
        unfold badRow at this
        simp at this
        simp
        omega
      · have h1:=firstErr_zero h (errsR r) (List.mem_map.2 ⟨r,hr,rfl⟩)
        exact firstErr_zero h1 _ (List.mem_map.2 ⟨x,hx,rfl⟩)
def LeastMR (H : PH) (v:Value) (m:List (List (P4 × Int))):Prop:=
  (checkMR m ≠ 0∧v=.tuple #[.slice none 0 0,.int .i64 (checkMR m)])∨(checkMR m=0∧∃ u,v=.tuple #[u,.int .i64 0]∧MatH H u (m.map formsR))
theorem c27 (m : List (List (P4 × Int))) (H:PH) (v:Value) (hv:MatH H v m):Cl Tryz.prog 64 [v] H emp fun r H' _=>LeastMR H' r m:=by
  refine Cl_of (pol:=polL) Γok Tryz.func64 (by kernel_rfl) rfl ?_
  conv=>whnf
  refine (c30 m _ _ hv).val fun H2 hs=>?_
  conv=>whnf
  refine if_intro (fun he=>?_) (fun he=>?_)
  · conv=>whnf
    exact .inl ⟨by simpa using he,rfl⟩
  · conv=>whnf
    have h0:checkMR m=0:=by simpa using he
    obtain⟨z1,z2,z3,z4⟩:=checkMR_zero h0
    refine (c87' m _ _ (hv.up hs) (by omega) (fun r hr=>by have:=z3 r hr;omega) (fun r hr x hx=>by have:=checkR_zero (z4 r hr x hx);omega)).use fun r H3 hs3 hr=>?_
    obtain⟨_,hr⟩:=hr
    conv=>whnf
    exact .inr ⟨h0,r,rfl,hr⟩
end Go.Proofs.YtgbhgfdgifkdhaaGreat

namespace Go.Proofs.YtgbhgfdgifkdhaaGreat
open Go.Proofs.YtgbhgfdgifkdhaaGreat.X Go.Proofs.YtgbhgfdgifkdhaaGreat.X.PH
set_option maxRecDepth 100000
theorem SlH.one {H O : PH} {base:Option Addr} {n cap:Nat} {vs:List Value} (h:SlH H (.slice base n cap) n vs) (hl:vs.length=n) {i:Nat} (hi:i < n) :
    ∃ b off,base=some ⟨b,off,none⟩∧Rd H O ⟨b,off+i*1,none⟩ 1 [vs[i]'(by omega)]:=by
  obtain⟨b,off,hb,hrd⟩:=SlH.rd (O:=O) (sz:=1) h (by omega) hi
  have hiv:i < vs.length:=by omega
  have e:(List.take 1 (List.drop (i*1) vs))=[vs[i]]:=by
    rw[Nat.mul_one,List.drop_eq_getElem_cons hiv,List.take_succ_cons,List.take_zero]
  rw[e] at hrd
  exact⟨b,off,hb,hrd⟩
theorem c153 (vs : List Value) (p:Value→Bool) (H:PH) (v f:Value) (hv:SlH H v vs.length vs) (hf:∀ x∈vs,Does Tryz.prog H f [x] fun r _=>r=.bool (p x)) (hlen:vs.length < 9223372036854775808) :
    Cl Tryz.prog 219 [v,f] H emp fun r _ _=>r=.int .i64 (match vs.findIdx? p with | some i=>i | none=>-1):=by
  obtain⟨base,cap,rfl,hv'⟩:=id hv
  refine Cl_of (pol:=polL) Γok Tryz.func219 (by kernel_rfl) rfl ?_
  conv=>whnf
  refine W_loop (pol:=polL) Γok (Nat × PH) (fun i=>i.1≤vs.length∧Sub H i.2∧∀ x∈vs.take i.1,p x=false) (fun i=>vs.length - i.1) (fun i=>[(8,.v (.int .i64 i.1))]) (fun _=>[]) (fun i=>i.2) (fun _=>emp) ⟨(0,H),⟨by simp,Sub.refl _,by simp⟩,rfl,rfl,?_⟩ ?_
  · conv=>whnf
    repeat (refine⟨rfl,?_⟩;conv=>whnf)
    exact trivial
  · rintro ⟨i,H'⟩ ⟨h1,h2,h3⟩
    dsimp only at h1 h2 h3
    conv=>whnf
    refine if_intro (fun h=>?_) (fun h=>?_)
    · have hi:i < vs.length:=by simpa using h
      obtain⟨b,off,rfl,hrd⟩:=SlH.one (O:=emp) (hv.up h2) rfl hi
      conv=>whnf
      refine dec_intro (by simpa using hi) ?_
      conv=>whnf
      refine⟨_,hrd,?_⟩
      conv=>whnf
      refine ((hf vs[i] (List.getElem_mem hi)).up h2).use fun r H'' hs hr=>?_
      subst hr
      conv=>whnf
      refine if_intro (fun hp=>?_) (fun hp=>?_)
      · conv=>whnf
        have:vs.findIdx? p=some i:=by
          rw[List.findIdx?_eq_some_iff_getElem]
          exact⟨hi,hp,fun j hj=>by
            have:=h3 vs[j] (List.mem_take_iff_getElem.2 ⟨j,by omega,rfl⟩)
            simp[this]⟩
        rw[this]
      · conv=>whnf
        refine⟨(i+1,H''),⟨hi,h2.trans hs,?_⟩,by dsimp only;omega,?_⟩
        · intro x hx
          dsimp only at hx
          rw[List.take_succ_eq_append_getElem hi] at hx
          rcases List.mem_append.1 hx with hx | hx
          · exact h3 x hx
          · simp at hx;rw[hx];exact hp
        · conv=>whnf
          refine⟨rfl,rfl,?_⟩
          conv=>whnf
          repeat (refine⟨rfl,?_⟩;conv=>whnf)
          refine⟨by rw[wrap_id (by omega) (by omega)];rfl,?_⟩
          conv=>whnf
          repeat (refine⟨rfl,?_⟩;conv=>whnf)
          exact trivial
    · conv=>whnf
      have hi:i=vs.length:=by simp at h;omega
      have:vs.findIdx? p=none:=by
        rw[List.findIdx?_eq_none_iff]
        intro x hx
        exact h3 x (by rw[hi,List.take_length];exact hx)
      rw[this]
theorem c85 (vs : List Value) (p:Value→Bool) (H:PH) (v f:Value) (hv:SlH H v vs.length vs) (hf:∀ x∈vs,Does Tryz.prog H f [x] fun r _=>r=.bool (p x)) (hlen:vs.length < 9223372036854775808) :
    Cl Tryz.prog 146 [v,f] H emp fun r _ _=>r=.bool (vs.any p):=by
  refine Cl_of (pol:=polL) Γok Tryz.func146 (by kernel_rfl) rfl ?_
  conv=>whnf
  refine (c153 vs p H v f hv hf hlen).val fun H' hs=>?_
  conv=>whnf
  congr 1
  cases h:vs.findIdx? p with
  | none=>
    rw[List.findIdx?_eq_none_iff] at h
    have:vs.any p=false:=by simpa using h
    rw[this];rfl
  | some i=>
    rw[List.findIdx?_eq_some_iff_getElem] at h
    obtain⟨hi,hp,_⟩:=h
    have:vs.any p=true:=List.any_eq_true.2 ⟨_,List.getElem_mem hi,hp⟩
    rw[this]
    simp
def lenV : Value→Nat
  | .slice _ n _=>n
  | _=>0
theorem c86 (base : Option Addr) (n cap:Nat) (most:Int) (H:PH) (b:Nat) (t:TypeId) (hb:H b=some (.cells ⟨[.int .i64 most]⟩ t (0,0))) :
    Cl Tryz.prog 147 [.slice base n cap,.pointer (some ⟨b,0,none⟩)] H emp fun r _ _=>r=.bool (decide ((n:Int) > most)):=by
  refine Cl_of (pol:=polL) Γok Tryz.func147 (by kernel_rfl) rfl ?_
  conv=>whnf
  refine⟨_,Rd.whole hb,?_⟩
  conv=>whnf
def greatF (m : List (List (P4 × Int))) (n:Int):Bool:=decide ((m.length:Int) > n) || m.any fun r=>decide ((r.length:Int) > n)
theorem any_rows {H : PH} {vs:List Value} {m:List (List (P4 × Int))} (q:Nat→Bool) (h1:vs.length=m.length) (h2:∀ (i:Nat) (r:List (P4 × Int)) (u:Value),m[i]?=some r→vs[i]?=some u→NumH H u r):(vs.any fun u=>q (lenV u))=m.any fun r=>q r.length:=by
  have:vs.map lenV=m.map List.length:=by
    apply List.ext_getElem?
    intro i
    rw[List.getElem?_map,List.getElem?_map]
    cases e:m[i]? with
    | none=>
      rw[List.getElem?_eq_none_iff] at e
      rw[List.getElem?_eq_none (by omega)]
      rfl
    | some r=>
      have hi:i < vs.length:=by rw[h1];exact (List.getElem?_eq_some_iff.1 e).1
      have e2:=List.getElem?_eq_getElem hi
      obtain⟨_,_,hu,_⟩:=h2 i r _ e e2
      rw[e2,hu]
      rfl
  have e1:(vs.any fun u=>q (lenV u))=(vs.map lenV).any q:=by rw[List.any_map];rfl
  have e2:(m.any fun r=>q r.length)=(m.map List.length).any q:=by rw[List.any_map];rfl
  rw[e1,e2,this]
theorem c26 (m : List (List (P4 × Int))) (n:Int) (H:PH) (v:Value) (hv:MatH H v m) (hlen:m.length < 9223372036854775808):Cl Tryz.prog 63 [v,.int .i64 n] H emp fun r _ _=>r=.bool (greatF m n):=by
  obtain⟨vs,h1,h2,h3⟩:=hv
  obtain⟨base,cap,rfl,_⟩:=id h2
  refine Cl_of (pol:=fun | 3=>.imm | _=>.loc) Γok Tryz.func63 (by kernel_rfl) rfl ?_
  conv=>whnf
  intro b hb hO
  conv=>whnf
  unfold greatF
  refine if_intro (fun h=>?_) (fun h=>?_)
  · conv=>whnf
    rw[h]
    rfl
  · conv=>whnf
    have hs:=sub_ins H (.cells ⟨[.int .i64 n]⟩ 3 (0,0)) hb
    refine (c85 vs (fun u=>decide ((lenV u:Int) > n)) _ _ _ (by rw[h1];exact h2.up hs) (fun x hx=>?_) (by omega)).val fun H' _=>?_
    · obtain⟨i,hi⟩:=List.mem_iff_getElem?.1 hx
      have hlt:=(List.getElem?_eq_some_iff.1 hi).1
      obtain⟨xb,xc,rfl,_⟩:=h3 i m[i] x (List.getElem?_eq_getElem (by omega)) hi
      exact⟨147,[],[_],rfl,fun H' hs'=>c86 _ _ _ n H' b _ (hs' _ _ (ins_same _ _ _))⟩
    · conv=>whnf
      rw[h,any_rows (fun k=>decide ((k:Int) > n)) h1 h3]
      rfl
end Go.Proofs.YtgbhgfdgifkdhaaGreat

namespace Go.Proofs.YtgbhgfdgifkdhaaGreat
open Go.Proofs.YtgbhgfdgifkdhaaGreat.X Go.Proofs.YtgbhgfdgifkdhaaGreat.X.PH
set_option maxRecDepth 100000
theorem cellsN_one (l : List (P4 × Int)):∀ v∈cellsN l,v.oneCell'=true:=by
  intro v hv
  obtain⟨c,hc,hv⟩:=List.mem_flatten.1 hv
  obtain⟨x,_,rfl⟩:=List.mem_map.1 hc
  exact cellsOf_one x v hv
theorem NumH.src {H O : PH} {base:Option Addr} {n cap:Nat} {l:List (P4 × Int)} (h:NumH H (.slice base n cap) l):∃ src c,(Value.slice base n cap)=.slice src (l.map cellsOf).length c∧(src=none→l.map cellsOf=[])∧∀ a,src=some a→0 < (l.map cellsOf).length→Rd H O a ((l.map cellsOf).length*5) (l.map cellsOf).flatten:=by
  obtain⟨_,_,hv,h⟩:=h
  cases hv
  refine⟨base,cap,by simp,fun hb=>?_,fun a ha hpos=>?_⟩
  · rcases h with⟨h,_⟩ | ⟨_,_,_,_,_,h,_⟩
    · have:l=[]:=by simpa using h
      rw[this];rfl
    · rw[hb] at h;cases h
  · rcases h with⟨h,_⟩ | ⟨b,off,c,t,fr,h1,h2,h3⟩
    · simp at hpos;omega
    · rw[ha] at h1;cases h1
      have hl:=cellsN_length l
      refine⟨rfl,by rw[List.length_map];exact hl,c,t,fr,.inl h2,?_⟩
      rw[hl] at h3
      rw[List.length_map]
      exact h3
theorem c43 (l : List (P4 × Int)) (H:PH) (v:Value) (hv:NumH H v l) (hlen:l.length≤100000):Cl Tryz.prog 57 [v] H emp fun r H' M'=>NumO M' r l:=by
  obtain⟨base,cap,rfl,hv'⟩:=id hv
  refine Cl_of (pol:=fun _=>.own) Γok Tryz.func57 (by kernel_rfl) rfl ?_
  conv=>whnf
  refine if_intro (fun h=>?_) (fun h=>?_)
  · conv=>whnf
    rcases hv' with⟨h',_⟩ | ⟨_,_,_,_,_,h',_⟩
    · have:l=[]:=by simpa using h'
      subst this
      exact⟨by simp,.inl ⟨rfl,rfl⟩⟩
    · rw[h'] at h;cases h
  · conv=>whnf
    intro b hb hO
    conv=>whnf
    refine append_many (xs:=[]) (ys:=l.map cellsOf) ⟨by simp,.inr ⟨b,0,[],rfl,by rw[ins_same];rfl,Nat.le_refl _,by simp⟩⟩ rfl (fun y hy=>?_) (cellsN_one l) hv.src ?_ fun v O2 hO2 hfr=>?_
    · obtain⟨x,_,rfl⟩:=List.mem_map.1 hy
      rfl
    · simp
      omega
    conv=>whnf
    exact hO2
end Go.Proofs.YtgbhgfdgifkdhaaGreat

namespace Go.Proofs.YtgbhgfdgifkdhaaGreat
open Go.Proofs.YtgbhgfdgifkdhaaGreat.X Go.Proofs.YtgbhgfdgifkdhaaGreat.X.PH
set_option maxRecDepth 100000
theorem c43' (l : List (P4 × Int)) (H:PH) (v:Value) (hv:NumH H v l) (hlen:l.length≤100000):Cl Tryz.prog 57 [v] H emp fun r H' _=>NumH H' r l:=
  (c43 l H v hv hlen).repart fun _ _ _ _ hd h=>by
    obtain⟨H',M',h1,h2⟩:=NumO.pub hd h
    exact⟨H',M',h1,h2⟩
theorem c15 (m : List (List (P4 × Int))) (H:PH) (v:Value) (hv:MatH H v m) (hlen:m.length≤100000) (hrow:∀ r∈m,r.length≤100000) :
    Cl Tryz.prog 38 [v] H emp fun r H' M'=>∃ us,OwnS M' 1 31 r (us.map fun u=>[u])∧RowsH H' us m:=by
  obtain⟨base,cap,rfl⟩:∃ base cap,v=.slice base m.length cap:=by
    obtain⟨_,_,⟨b,c,h,_⟩,_⟩:=hv
    exact⟨b,c,h⟩
  refine Cl_of (pol:=fun | 15=>.imm | _=>.loc) Γok Tryz.func38 (by kernel_rfl) rfl ?_
  conv=>whnf
  refine W_loop (pol:=fun | 15=>.imm | _=>.loc) Γok (Nat × PH × Value × PH) (fun i=>i.1≤m.length∧Sub H i.2.1∧∃ us,OwnS i.2.2.2 1 31 i.2.2.1 (us.map fun u=>[u])∧RowsH i.2.1 us (m.take i.1)) (fun i=>m.length - i.1) (fun i=>[(8,.v (.int .i64 i.1)),(3,.v i.2.2.1)]) (fun _=>[]) (fun i=>i.2.1) (fun i=>i.2.2.2) ⟨(0,H,.slice none 0 0,emp),⟨by simp,Sub.refl _,[],?_,?_⟩,rfl,rfl,?_⟩ ?_
  · exact⟨by simp,.inl ⟨rfl,by simp⟩⟩
  · exact⟨by simp,by simp⟩
  · conv=>whnf
    repeat (refine⟨rfl,?_⟩;conv=>whnf)
    exact trivial
  · rintro ⟨i,H',out,O'⟩ ⟨h1,h2,us,h3,h4⟩
    dsimp only at h1 h2 h3 h4
    conv=>whnf
    refine if_intro (fun h=>?_) (fun h=>?_)
    · have hi:i < m.length:=by simpa using h
      obtain⟨b,off,base',cap',rfl,hrd,hn⟩:=(hv.up h2).rd (O:=O') hi
      conv=>whnf
      refine dec_intro (by simpa using hi) ?_
      conv=>whnf
      refine⟨_,hrd,?_⟩
      conv=>whnf
      refine (c43' m[i] _ _ hn (hrow _ (List.getElem_mem hi))).use fun r H2 hs hr=>?_
      obtain⟨_,hr⟩:=hr
      obtain⟨rb,rc,rfl⟩:∃ rb rc,r=.slice rb m[i].length rc:=by
        obtain⟨b,c,h,_⟩:=hr
        exact⟨b,c,h⟩
      conv=>whnf
      intro b2 hb2 hO2
      conv=>whnf
      refine append_one (xs:=us.map fun u=>[u]) (y:=[.slice rb m[i].length rc]) h3 rfl rfl (slice_one hr) ⟨_,_,_,rfl,rfl,Rd.whole (ins_same _ _ _)⟩ ?_ fun v O2 hO2 hfr=>?_
      · have:=h4.1
        simp at this ⊢
        omega
      conv=>whnf
      have hs2:=sub_ins H2 (.cells ⟨[.slice rb m[i].length rc]⟩ 31 (0,0)) hb2
      refine⟨(i+1,ins H2 b2 (.cells ⟨[.slice rb m[i].length rc]⟩ 31 (0,0)),v,O2),⟨hi,(h2.trans hs).trans hs2,us++[.slice rb m[i].length rc],?_,?_⟩,by dsimp only;omega,?_⟩
      · show OwnS O2 1 31 v _
        rw[List.map_append]
        exact hO2
      · dsimp only
        rw[List.take_succ_eq_append_getElem hi]
        exact (h4.up (hs.trans hs2)).snoc (hr.up hs2)
      · conv=>whnf
        refine⟨rfl,rfl,?_⟩
        conv=>whnf
        repeat (refine⟨rfl,?_⟩;conv=>whnf)
        refine⟨by show En.v (.int .i64 (IntKind.i64.wrap (i+1)))=_;rw[wrap_id (by omega) (by omega)];rfl,?_⟩
        conv=>whnf
        repeat (refine⟨rfl,?_⟩;conv=>whnf)
        exact trivial
    · have hi:m.length≤i:=by simpa using h
      conv=>whnf
      rw[List.take_of_length_le hi] at h4
      exact⟨us,h3,h4⟩
theorem c15' (m : List (List (P4 × Int))) (H:PH) (v:Value) (hv:MatH H v m) (hlen:m.length≤100000) (hrow:∀ r∈m,r.length≤100000):Cl Tryz.prog 38 [v] H emp fun r H' _=>MatH H' r m:=
  (c15 m H v hv hlen hrow).repart fun _ _ _ _ hd h=>by
    obtain⟨us,h1,h2⟩:=h
    obtain⟨H',M',k1,k2⟩:=OwnS.rows hd h1 h2
    exact⟨H',M',k1,k2⟩
end Go.Proofs.YtgbhgfdgifkdhaaGreat

namespace Go.Proofs.YtgbhgfdgifkdhaaGreat
open Go.Proofs.YtgbhgfdgifkdhaaGreat.X Go.Proofs.YtgbhgfdgifkdhaaGreat.X.PH
set_option maxRecDepth 100000
def eqN (x y : P4 × Int):Bool:=eqCells (cellsOf x) (cellsOf y)
theorem eqN_iff {x y : P4 × Int}:eqN x y=true ↔ x=y:=by
  obtain⟨⟨a,b,c,d⟩,k⟩:=x
  obtain⟨⟨a',b',c',d'⟩,k'⟩:=y
  simp[eqN,cellsOf,eqCells]
  constructor
  · rintro ⟨h1,h2,h3,h4,h5⟩;exact⟨⟨h1,h2,h3,h4⟩,h5⟩
  · rintro ⟨⟨h1,h2,h3,h4⟩,h5⟩;exact⟨h1,h2,h3,h4,h5⟩
def eqL : List (P4 × Int)→List (P4 × Int)→Bool
  | x::l,y::m=>eqN x y && eqL l m
  | [],[]=>true
  | _,_=>false
theorem eqL_len : ∀ {l m:List (P4 × Int)},l.length ≠ m.length→eqL l m=false
  | [],[],h=>by simp at h
  | [],_::_,_=>rfl
  | _::_,[],_=>rfl
  | x::l,y::m,h=>by
    have:=eqL_len (l:=l) (m:=m) (by simpa using h)
    simp[eqL,this]
theorem eqL_step {l m : List (P4 × Int)} {i:Nat} (h1:i < l.length) (h2:i < m.length):eqL (l.drop i) (m.drop i)=(eqN l[i] m[i] && eqL (l.drop (i+1)) (m.drop (i+1))):=by
  rw[List.drop_eq_getElem_cons h1,List.drop_eq_getElem_cons h2]
  rfl
theorem c48 (l m : List (P4 × Int)) (H:PH) (u v:Value) (hu:NumH H u l) (hv:NumH H v m) (hlen:l.length < 9223372036854775808):Cl Tryz.prog 62 [u,v] H emp fun r _ _=>r=.bool (eqL l m):=by
  obtain⟨b1,cap1,rfl,_⟩:=id hu
  obtain⟨b2,cap2,rfl,_⟩:=id hv
  refine Cl_of (pol:=polL) Γok Tryz.func62 (by kernel_rfl) rfl ?_
  conv=>whnf
  refine if_intro (fun h=>?_) (fun h=>?_)
  · conv=>whnf
    rw[eqL_len (by simp at h;omega)]
  have hl:l.length=m.length:=by simp at h;omega
  conv=>whnf
  refine W_loop (pol:=polL) Γok (Nat × PH) (fun i=>i.1≤l.length∧Sub H i.2∧eqL l m=eqL (l.drop i.1) (m.drop i.1)) (fun i=>l.length - i.1) (fun i=>[(13,.v (.int .i64 i.1))]) (fun _=>[]) (fun i=>i.2) (fun _=>emp) ⟨(0,H),⟨by simp,Sub.refl _,by simp⟩,rfl,rfl,?_⟩ ?_
  · conv=>whnf
    repeat (refine⟨rfl,?_⟩;conv=>whnf)
    exact trivial
  · rintro ⟨i,H'⟩ ⟨h1,h2,h3⟩
    dsimp only at h1 h2 h3
    conv=>whnf
    refine if_intro (fun h=>?_) (fun h=>?_)
    · have hi:i < l.length:=by simpa using h
      have hi2:i < m.length:=by omega
      obtain⟨_,b,off,rfl,hrd⟩:=(hu.up h2).rd (O:=emp) hi
      obtain⟨_,b',off',rfl,hrd'⟩:=(hv.up h2).rd (O:=emp) hi2
      conv=>whnf
      refine W_draw (pol:=polL) Γok mixes [(0,.pendO),(1,.pendO),(2,.pendO),(3,.pendO),(4,.pendO),(5,.pendO),(6,.pendO),(7,.pendO),(8,.pendO)] 26 (by kernel_rfl) rfl ?_
      conv=>whnf
      refine dec_intro (by simpa using hi) ?_
      conv=>whnf
      refine⟨_,hrd,?_⟩
      conv=>whnf
      refine dec_intro (by simpa using hi2) ?_
      conv=>whnf
      refine⟨_,hrd',?_⟩
      conv=>whnf
      have hst:=eqL_step hi hi2
      refine if_intro (fun he=>?_) (fun he=>?_)
      · conv=>whnf
        have:eqN l[i] m[i]=false:=by
          unfold eqN
          simpa using he
        rw[h3,hst,this]
        rfl
      · conv=>whnf
        have:eqN l[i] m[i]=true:=by
          unfold eqN
          simpa using he
        refine⟨(i+1,H'),⟨hi,h2,?_⟩,by dsimp only;omega,?_⟩
        · rw[h3,hst,this]
          rfl
        · conv=>whnf
          refine⟨rfl,rfl,?_⟩
          conv=>whnf
          repeat (refine⟨rfl,?_⟩;conv=>whnf)
          refine⟨by show En.v (.int .i64 (IntKind.i64.wrap (i+1)))=_;rw[wrap_id (by omega) (by omega)];rfl,?_⟩
          conv=>whnf
          repeat (refine⟨rfl,?_⟩;conv=>whnf)
          exact trivial
    · have hi:l.length≤i:=by simpa using h
      conv=>whnf
      rw[h3,List.drop_of_length_le hi,List.drop_of_length_le (by omega)]
      rfl
end Go.Proofs.YtgbhgfdgifkdhaaGreat

namespace Go.Proofs.YtgbhgfdgifkdhaaGreat
open Go.Proofs.YtgbhgfdgifkdhaaGreat.X Go.Proofs.YtgbhgfdgifkdhaaGreat.X.PH
set_option maxRecDepth 100000
def eqM : List (List (P4 × Int))→List (List (P4 × Int))→Bool
  | x::l,y::m=>eqL x y && eqM l m
  | [],[]=>true
  | _,_=>false
theorem eqM_len : ∀ {l m:List (List (P4 × Int))},l.length ≠ m.length→eqM l m=false
  | [],[],h=>by simp at h
  | [],_::_,_=>rfl
  | _::_,[],_=>rfl
  | x::l,y::m,h=>by
    have:=eqM_len (l:=l) (m:=m) (by simpa using h)
    simp[eqM,this]
theorem eqM_step {l m : List (List (P4 × Int))} {i:Nat} (h1:i < l.length) (h2:i < m.length):eqM (l.drop i) (m.drop i)=(eqL l[i] m[i] && eqM (l.drop (i+1)) (m.drop (i+1))):=by
  rw[List.drop_eq_getElem_cons h1,List.drop_eq_getElem_cons h2]
  rfl
theorem c127 (l m : List (P4 × Int)) (H:PH) (u v:Value) (hu:NumH H u l) (hv:NumH H v m) (hlen:l.length < 9223372036854775808):Cl Tryz.prog 77 [u,v] H emp fun r _ _=>r=.bool (eqL l m):=by
  refine Cl_of (pol:=polL) Γok Tryz.func77 (by kernel_rfl) rfl ?_
  conv=>whnf
  refine (c48 l m _ _ _ hu hv hlen).val fun H2 hs=>?_
  conv=>whnf
theorem c126 (l m : List (List (P4 × Int))) (H:PH) (u v:Value) (hu:MatH H u l) (hv:MatH H v m) (hlen:l.length < 9223372036854775808) (hrow:∀ r∈l,r.length < 9223372036854775808):Cl Tryz.prog 76 [u,v,.func (.func 77) #[] #[]] H emp fun r _ _=>r=.bool (eqM l m):=by
  obtain⟨b1,cap1,rfl⟩:∃ base cap,u=.slice base l.length cap:=by
    obtain⟨_,_,⟨b,c,h,_⟩,_⟩:=hu
    exact⟨b,c,h⟩
  obtain⟨b2,cap2,rfl⟩:∃ base cap,v=.slice base m.length cap:=by
    obtain⟨_,_,⟨b,c,h,_⟩,_⟩:=hv
    exact⟨b,c,h⟩
  refine Cl_of (pol:=polL) Γok Tryz.func76 (by kernel_rfl) rfl ?_
  conv=>whnf
  refine if_intro (fun h=>?_) (fun h=>?_)
  · conv=>whnf
    rw[eqM_len (by simp at h;omega)]
  have hl:l.length=m.length:=by simp at h;omega
  conv=>whnf
  refine W_loop (pol:=polL) Γok (Nat × PH) (fun i=>i.1≤l.length∧Sub H i.2∧eqM l m=eqM (l.drop i.1) (m.drop i.1)) (fun i=>l.length - i.1) (fun i=>[(17,.v (.int .i64 i.1))]) (fun _=>[]) (fun i=>i.2) (fun _=>emp) ⟨(0,H),⟨by simp,Sub.refl _,by simp⟩,rfl,rfl,?_⟩ ?_
  · conv=>whnf
    repeat (refine⟨rfl,?_⟩;conv=>whnf)
    exact trivial
  · rintro ⟨i,H'⟩ ⟨h1,h2,h3⟩
    dsimp only at h1 h2 h3
    conv=>whnf
    refine if_intro (fun h=>?_) (fun h=>?_)
    · have hi:i < l.length:=by simpa using h
      have hi2:i < m.length:=by omega
      obtain⟨b,off,bb,cc,rfl,hrd,hn⟩:=(hu.up h2).rd (O:=emp) hi
      obtain⟨b',off',bb',cc',rfl,hrd',hn'⟩:=(hv.up h2).rd (O:=emp) hi2
      conv=>whnf
      refine dec_intro (by simpa using hi) ?_
      conv=>whnf
      refine⟨_,hrd,?_⟩
      conv=>whnf
      refine dec_intro (by simpa using hi2) ?_
      conv=>whnf
      refine⟨_,hrd',?_⟩
      conv=>whnf
      refine (c127 l[i] m[i] _ _ _ hn hn' (hrow _ (List.getElem_mem hi))).val fun H2 hs=>?_
      conv=>whnf
      have hst:=eqM_step hi hi2
      refine if_intro (fun he=>?_) (fun he=>?_)
      · conv=>whnf
        rw[h3,hst,show eqL l[i] m[i]=false by simpa using he]
        rfl
      · conv=>whnf
        refine⟨(i+1,H2),⟨hi,h2.trans hs,?_⟩,by dsimp only;omega,?_⟩
        · rw[h3,hst,show eqL l[i] m[i]=true by simpa using he]
          rfl
        · conv=>whnf
          refine⟨rfl,rfl,?_⟩
          conv=>whnf
          repeat (refine⟨rfl,?_⟩;conv=>whnf)
          refine⟨by show En.v (.int .i64 (IntKind.i64.wrap (i+1)))=_;rw[wrap_id (by omega) (by omega)];rfl,?_⟩
          conv=>whnf
          repeat (refine⟨rfl,?_⟩;conv=>whnf)
          exact trivial
    · have hi:l.length≤i:=by simpa using h
      conv=>whnf
      rw[h3,List.drop_of_length_le hi,List.drop_of_length_le (by omega)]
      rfl
theorem c52 (l m : List (List (P4 × Int))) (H:PH) (u v:Value) (hu:MatH H u l) (hv:MatH H v m) (hlen:l.length < 9223372036854775808) (hrow:∀ r∈l,r.length < 9223372036854775808):Cl Tryz.prog 24 [u,v] H emp fun r _ _=>r=.bool (eqM l m):=by
  refine Cl_of (pol:=polL) Γok Tryz.func24 (by kernel_rfl) rfl ?_
  conv=>whnf
  refine (c126 l m _ _ _ hu hv hlen hrow).val fun H2 hs=>?_
  conv=>whnf
theorem c23 (l m : List (List (P4 × Int))) (H:PH) (u v:Value) (hu:MatH H u l) (hv:MatH H v m) (hlen:l.length < 9223372036854775808) (hrow:∀ r∈l,r.length < 9223372036854775808):Cl Tryz.prog 45 [u,v] H emp fun r _ _=>r=.bool (eqM l m):=by
  refine Cl_of (pol:=polL) Γok Tryz.func45 (by kernel_rfl) rfl ?_
  conv=>whnf
  refine (c52 l m _ _ _ hu hv hlen hrow).val fun H2 hs=>?_
  conv=>whnf
end Go.Proofs.YtgbhgfdgifkdhaaGreat

namespace Go.Proofs.YtgbhgfdgifkdhaaGreat
open Go.Proofs.YtgbhgfdgifkdhaaGreat.X Go.Proofs.YtgbhgfdgifkdhaaGreat.X.PH
set_option maxRecDepth 100000
def sizedF (n : Int):Bool:=decide (n ≥ 1) && decide (n≤64)
theorem c89 (n : Int) (H:PH):Cl Tryz.prog 133 [.int .i64 n] H emp fun r _ _=>r=.bool (sizedF n):=by
  refine Cl_of (pol:=polL) Γok Tryz.func133 (by kernel_rfl) rfl ?_
  conv=>whnf
  unfold sizedF
  refine if_intro (fun h=>?_) (fun h=>?_)
  · conv=>whnf
    rw[h]
    rfl
  · conv=>whnf
    rw[h]
    rfl
def place (i k : Nat):Value:=.agg ⟨[.int .i64 i,.int .i64 k]⟩
theorem c84 (m : List (List (P4 × Int))) (i k:Nat) (hi:i < m.length) (hk:k < m[i].length) (H:PH) (v:Value) (hv:MatH H v m):Cl Tryz.prog 95 [v,place i k] H emp fun r _ _=>r=nv (m[i][k]):=by
  obtain⟨base,cap,rfl⟩:∃ base cap,v=.slice base m.length cap:=by
    obtain⟨_,_,⟨b,c,h,_⟩,_⟩:=hv
    exact⟨b,c,h⟩
  obtain⟨b,off,bb,cc,rfl,hrd,hn⟩:=hv.rd (O:=emp) hi
  obtain⟨_,b',off',rfl,hrd'⟩:=hn.rd (O:=emp) hk
  refine Cl_of (pol:=polL) Γok Tryz.func95 (by kernel_rfl) rfl ?_
  conv=>whnf
  repeat (intro _;conv=>whnf)
  refine W_draw (pol:=polL) Γok mixes [(0,.pendO),(1,.pendO),(2,.pendO),(3,.pendO),(4,.pendO),(5,.pendO),(6,.pendO),(7,.pendO),(8,.pendO),(9,.lock)] 14 (by kernel_rfl) rfl ?_
  conv=>whnf
  refine dec_intro (by simpa using hi) ?_
  conv=>whnf
  refine⟨_,hrd,?_⟩
  conv=>whnf
  refine dec_intro (by simpa using hk) ?_
  conv=>whnf
  refine⟨_,hrd',?_⟩
  conv=>whnf
  rfl
end Go.Proofs.YtgbhgfdgifkdhaaGreat

namespace Go.Proofs.YtgbhgfdgifkdhaaGreat
open Go.Proofs.YtgbhgfdgifkdhaaGreat.X Go.Proofs.YtgbhgfdgifkdhaaGreat.X.PH
set_option maxRecDepth 100000
theorem c155 (x : Value) (q:Bool) (H:PH) (b:Nat) (f:Value) (t:TypeId) (hb:H b=some (.cells ⟨[f]⟩ t (0,0))) (hf:Does Tryz.prog H f [x] fun r _=>r=.bool q) :
    Cl Tryz.prog 221 [x,.pointer (some ⟨b,0,none⟩)] H emp fun r _ _=>r=.bool (!q):=by
  refine Cl_of (pol:=polL) Γok Tryz.func221 (by kernel_rfl) rfl ?_
  conv=>whnf
  refine⟨_,Rd.whole hb,?_⟩
  conv=>whnf
  refine hf.use fun r H' hs hr=>?_
  subst hr
  conv=>whnf
theorem c90 (vs : List Value) (p:Value→Bool) (H:PH) (v:Value) (fn:Fn) (first cap:Array Value) (hv:SlH H v vs.length vs) (hf:∀ x∈vs,Does Tryz.prog H (.func fn first cap) [x] fun r _=>r=.bool (p x)) (hlen:vs.length < 9223372036854775808) :
    Cl Tryz.prog 150 [v,.func fn first cap] H emp fun r _ _=>r=.bool (vs.all p):=by
  obtain⟨base,cp,rfl,hv'⟩:=id hv
  refine Cl_of (pol:=fun | 3=>.imm | _=>.loc) Γok Tryz.func150 (by kernel_rfl) rfl ?_
  conv=>whnf
  intro b hb hO
  conv=>whnf
  have hs:=sub_ins H (.cells ⟨[.func fn first cap]⟩ 150 (0,0)) hb
  refine (c85 vs (fun x=>!p x) _ _ _ (hv.up hs) (fun x hx=>⟨221,[],[_],rfl,fun H' hs'=>?_⟩) hlen).val fun H' _=>?_
  · exact c155 x (p x) H' b (.func fn first cap) _ (hs' _ _ (ins_same _ _ _)) ((hf x hx).up (hs.trans hs'))
  · conv=>whnf
    congr 1
    simp[List.not_any_eq_all_not]
def goodRow (m : List (List (P4 × Int))) (n:Nat):Bool:=sizedF n && ((n:Int) == ((m.headD []).length:Int))
theorem c91 (m : List (List (P4 × Int))) (base:Option Addr) (n cap:Nat) (H:PH) (b:Nat) (t:TypeId) (v:Value) (hm:0 < m.length) (hb:H b=some (.cells ⟨[v]⟩ t (0,0))) (hv:MatH H v m) :
    Cl Tryz.prog 151 [.slice base n cap,.pointer (some ⟨b,0,none⟩)] H emp fun r _ _=>r=.bool (goodRow m n):=by
  obtain⟨mb,mc,rfl⟩:∃ base cap,v=.slice base m.length cap:=by
    obtain⟨_,_,⟨b,c,h,_⟩,_⟩:=hv
    exact⟨b,c,h⟩
  refine Cl_of (pol:=polL) Γok Tryz.func151 (by kernel_rfl) rfl ?_
  conv=>whnf
  refine (c89 n _).val fun H2 hs=>?_
  conv=>whnf
  unfold goodRow
  refine if_intro (fun h=>?_) (fun h=>?_)
  · conv=>whnf
    refine⟨_,Rd.whole (hs _ _ hb),?_⟩
    obtain⟨b0,off0,base0,cap0,rfl,hrd0,hn0⟩:=(hv.up hs).rd (O:=emp) hm
    conv=>whnf
    refine dec_intro (by simpa using hm) ?_
    conv=>whnf
    refine⟨_,hrd0,?_⟩
    conv=>whnf
    have hd:m.headD []=m[0]'hm:=by
      cases m with
      | nil=>simp at hm
      | cons r m=>rfl
    rw[h,hd]
    rfl
  · conv=>whnf
    rw[h]
    rfl
end Go.Proofs.YtgbhgfdgifkdhaaGreat

namespace Go.Proofs.YtgbhgfdgifkdhaaGreat
open Go.Proofs.YtgbhgfdgifkdhaaGreat.X Go.Proofs.YtgbhgfdgifkdhaaGreat.X.PH
set_option maxRecDepth 100000
def rowP (i n : Nat):List (List Value):=(List.range n).map fun k=>[place i k]
def placesN : Nat→List Nat→List (List Value)
  | _,[]=>[]
  | i,n::ns=>rowP i n++placesN (i+1) ns
def placesFrom (a : Nat) (m:List (List (P4 × Int))):List (List Value):=placesN a (m.map List.length)
def offs (ns : List Nat) (i:Nat):Nat:=(ns.take i).sum
theorem placesN_get : ∀ (ns:List Nat) (a i k:Nat) (hi:i < ns.length),k < ns[i]→(placesN a ns)[offs ns i+k]?=some [place (a+i) k]
  | n::ns,a,0,k,_,hk=>by
    have hk':k < n:=hk
    simp[placesN,offs,rowP,List.getElem?_append,hk']
  | n::ns,a,i+1,k,hi,hk=>by
    have:=placesN_get ns (a+1) i k (by simpa using hi) (by simpa using hk)
    simp only[placesN,offs,List.take_succ_cons,List.sum_cons]
    rw[List.getElem?_append_right (by simp[rowP];omega)]
    rw[show n+(ns.take i).sum+k - (rowP a n).length=offs ns i+k by simp[rowP,offs];omega]
    rw[this]
    congr 3
    omega
theorem offs_succ (ns : List Nat) {i:Nat} (hi:i < ns.length):offs ns (i+1)=offs ns i+ns[i]:=by
  unfold offs
  rw[List.take_succ_eq_append_getElem hi,List.sum_append]
  simp
theorem placesN_length : ∀ (ns:List Nat) (a:Nat),(placesN a ns).length=ns.sum
  | [],_=>rfl
  | n::ns,a=>by simp[placesN,rowP,placesN_length ns (a+1)]
def ShapeH (H : PH) (v:Value) (ns:List Nat):Prop:=
  ∃ vs:List Value,vs.length=ns.length∧SlH H v ns.length vs∧∀ (i:Nat) (n:Nat) (u:Value),ns[i]?=some n→vs[i]?=some u→∃ b c,u=.slice b n c
theorem ShapeH.up {H H' : PH} {v:Value} {ns:List Nat} (h:ShapeH H v ns) (hs:Sub H H'):ShapeH H' v ns:=by
  obtain⟨vs,h1,h2,h3⟩:=h
  exact⟨vs,h1,h2.up hs,h3⟩
theorem ShapeH.rd {H O : PH} {base:Option Addr} {n cap:Nat} {ns:List Nat} (h:ShapeH H (.slice base n cap) ns) {i:Nat} (hi:i < ns.length) :
    ∃ b off base' cap',base=some ⟨b,off,none⟩∧Rd H O ⟨b,off+i*1,none⟩ 1 [.slice base' ns[i] cap']:=by
  obtain⟨vs,h1,h2,h3⟩:=h
  obtain⟨_,_,hv,_⟩:=id h2
  cases hv
  obtain⟨b,off,hb,hrd⟩:=SlH.one (O:=O) h2 h1 hi
  obtain⟨base',cap',hu⟩:=h3 i ns[i] _ (List.getElem?_eq_getElem hi) (List.getElem?_eq_getElem (by omega))
  rw[hu] at hrd
  exact⟨b,off,base',cap',hb,hrd⟩
theorem MatH.shape {H : PH} {v:Value} {m:List (List (P4 × Int))} (h:MatH H v m):ShapeH H v (m.map List.length):=by
  obtain⟨vs,h1,h2,h3⟩:=h
  refine⟨vs,by simpa using h1,by simpa using h2,fun i n u hn hu=>?_⟩
  rw[List.getElem?_map] at hn
  cases e:m[i]? with
  | none=>rw[e] at hn;cases hn
  | some r=>
    rw[e] at hn
    cases hn
    obtain⟨b,c,hu',_⟩:=h3 i r u e hu
    exact⟨b,c,hu'⟩
theorem c156 (ns : List Nat) (H0:PH) (b:Nat) (t:TypeId) (v:Value) (hlen:ns.length < 1000000) (hrow:∀ n∈ns,n < 1000000) (hb:H0 b=some (.cells ⟨[v]⟩ t (0,0))) (hv:ShapeH H0 v ns) :
    Iter Tryz.prog H0 (.func (.func 182) #[] #[.pointer (some ⟨b,0,none⟩)]) (placesN 0 ns):=by
  refine⟨182,[],[_],rfl,fun H hH l M J Jx hJ hup hy=>?_⟩
  obtain⟨mb,mc,rfl⟩:∃ base cap,v=.slice base ns.length cap:=by
    obtain⟨_,_,⟨b,c,h,_⟩,_⟩:=hv
    exact⟨b,c,h⟩
  refine Cl_of (pol:=polL) Γok Tryz.func182 (by kernel_rfl) rfl ?_
  conv=>whnf
  refine⟨_,Rd.whole (hH _ _ hb),?_⟩
  conv=>whnf
  refine W_loop (pol:=polL) Γok (Nat × PH × PH) (fun i=>i.1≤ns.length∧Sub H i.2.1∧J (offs ns i.1) i.2.1 i.2.2) (fun i=>ns.length - i.1) (fun i=>[(8,.v (.int .i64 i.1))]) (fun _=>[]) (fun i=>i.2.1) (fun i=>i.2.2) ⟨(0,H,M),⟨by simp,Sub.refl _,by simpa[offs] using hJ⟩,rfl,rfl,?_⟩ ?_
  · conv=>whnf
    repeat (refine⟨rfl,?_⟩;conv=>whnf)
    exact trivial
  · rintro ⟨i,H',M'⟩ ⟨h1,h2,h3⟩
    dsimp only at h1 h2 h3
    conv=>whnf
    refine if_intro (fun h=>?_) (fun h=>?_)
    · have hi:i < ns.length:=by simpa using h
      obtain⟨b',off,bb,cc,rfl,hrd⟩:=((hv.up hH).up h2).rd (O:=M') hi
      conv=>whnf
      refine dec_intro (by simpa using hi) ?_
      conv=>whnf
      refine⟨_,hrd,?_⟩
      conv=>whnf
      refine W_loopX (pol:=polL) Γok (Nat × PH × PH) (fun k=>k.1≤ns[i]∧Sub H k.2.1∧J (offs ns i+k.1) k.2.1 k.2.2) (fun k=>ns[i] - k.1) (fun e k=>e=.exit 2∧Sub H k.2.1∧J (offs ns (i+1)) k.2.1 k.2.2) (fun k=>[(15,.v (.int .i64 k.1))]) (fun _=>[]) (fun k=>k.2.1) (fun k=>k.2.2) ⟨(0,H',M'),⟨by simp,h2,by simpa using h3⟩,rfl,rfl,?_⟩ ?_ ?_
      · conv=>whnf
        repeat (refine⟨rfl,?_⟩;conv=>whnf)
        exact trivial
      · rintro ⟨k,H2,M2⟩ ⟨k1,k2,k3⟩
        dsimp only at k1 k2 k3
        conv=>whnf
        refine if_intro (fun h=>?_) (fun h=>?_)
        · have hk:k < ns[i]:=by simpa using h
          conv=>whnf
          have hp:=placesN_get ns 0 i k hi hk
          rw[Nat.zero_add] at hp
          refine (hy _ _ hp _ _ k2 k3).mono fun r H3 M3 hs hq=>?_
          rcases hq with⟨rfl,hJ'⟩ | ⟨rfl,hX⟩
          · conv=>whnf
            refine⟨(k+1,H3,M3),⟨hk,k2.trans hs,hJ'⟩,by dsimp only;omega,?_⟩
            conv=>whnf
            refine⟨rfl,rfl,?_⟩
            conv=>whnf
            repeat (refine⟨rfl,?_⟩;conv=>whnf)
            refine⟨by show En.v (.int .i64 (IntKind.i64.wrap (k+1)))=_;rw[wrap_id (by omega) (by have:=hrow _ (List.getElem_mem hi);omega)];rfl,?_⟩
            conv=>whnf
            repeat (refine⟨rfl,?_⟩;conv=>whnf)
            exact trivial
          · conv=>whnf
            refine .inl ?_
            conv=>whnf
            exact .inr hX
        · have hk:k=ns[i]:=by simp at h;omega
          conv=>whnf
          refine .inr ⟨(k,H2,M2),⟨rfl,k2,?_⟩,?_⟩
          · rw[offs_succ ns hi,← hk];exact k3
          · conv=>whnf
            refine⟨rfl,rfl,?_⟩
            conv=>whnf
            repeat (refine⟨rfl,?_⟩;conv=>whnf)
            exact trivial
      · rintro e ⟨k,H2,M2⟩ ⟨rfl,k2,k3⟩
        conv=>whnf
        refine⟨(i+1,H2,M2),⟨hi,k2,k3⟩,by dsimp only;omega,?_⟩
        conv=>whnf
        refine⟨rfl,rfl,?_⟩
        conv=>whnf
        repeat (refine⟨rfl,?_⟩;conv=>whnf)
        refine⟨by show En.v (.int .i64 (IntKind.i64.wrap (i+1)))=_;rw[wrap_id (by omega) (by omega)];rfl,?_⟩
        conv=>whnf
        repeat (refine⟨rfl,?_⟩;conv=>whnf)
        exact trivial
    · conv=>whnf
      have hi:i=ns.length:=by simp at h;omega
      refine .inl ?_
      rw[placesN_length]
      rw[hi] at h3
      simpa[offs] using h3
theorem c92 (ns : List Nat) (H:PH) (v:Value) (hlen:ns.length < 1000000) (hrow:∀ n∈ns,n < 1000000) (hv:ShapeH H v ns) :
    Cl Tryz.prog 93 [v] H emp fun r H' _=>Iter Tryz.prog H' r (placesN 0 ns):=by
  obtain⟨mb,mc,rfl⟩:∃ base cap,v=.slice base ns.length cap:=by
    obtain⟨_,_,⟨b,c,h,_⟩,_⟩:=hv
    exact⟨b,c,h⟩
  refine Cl_of (pol:=fun _=>.imm) Γok Tryz.func93 (by kernel_rfl) rfl ?_
  conv=>whnf
  intro b hb hO
  conv=>whnf
  exact c156 ns _ b _ _ hlen hrow (ins_same _ _ _) (hv.up (sub_ins _ _ hb))
end Go.Proofs.YtgbhgfdgifkdhaaGreat

namespace Go.Proofs.YtgbhgfdgifkdhaaGreat
open Go.Proofs.YtgbhgfdgifkdhaaGreat.X Go.Proofs.YtgbhgfdgifkdhaaGreat.X.PH
set_option maxRecDepth 100000
def errsF (l : List (P4 × Int)):Int:=firstErr (l.map fun x=>checkF x.1 x.2)
def checkMF (m : List (List (P4 × Int))):Int:=
  if !sizedF m.length || !(m.all fun r=>goodRow m r.length) then 2 else firstErr ((m.flatten).map fun x=>checkF x.1 x.2)
theorem placesFrom_inv : ∀ (m:List (List (P4 × Int))) (a n:Nat) (x:List Value),(placesFrom a m)[n]?=some x→∃ (i k:Nat) (hi:i < m.length) (hk:k < m[i].length),x=[place (a+i) k]∧m.flatten[n]?=some (m[i][k])
  | [],_,_,_,h=>by simp[placesFrom,placesN] at h
  | r::m,a,n,x,h=>by
    simp only[placesFrom,List.map_cons,placesN] at h
    by_cases hn:n < r.length
    · rw[List.getElem?_append_left (by simpa[rowP] using hn)] at h
      simp[rowP,hn] at h
      refine⟨0,n,by simp,hn,by rw[← h];rfl,?_⟩
      rw[List.flatten_cons,List.getElem?_append_left hn]
      simp
    · rw[List.getElem?_append_right (by simp[rowP];omega)] at h
      obtain⟨i,k,hi,hk,h1,h2⟩:=placesFrom_inv m (a+1) _ x h
      refine⟨i+1,k,by simpa using hi,by simpa using hk,by rw[h1,show a+1+i=a+(i+1) by omega],?_⟩
      rw[List.flatten_cons,List.getElem?_append_right (by omega)]
      simpa[rowP] using h2
theorem c29 (m : List (List (P4 × Int))) (H:PH) (v:Value) (hlen:m.length < 1000000) (hv:MatH H v m) :
    Cl Tryz.prog 66 [v] H emp fun r _ _=>r=.int .i64 (checkMF m):=by
  obtain⟨vs,hvs1,hvs2,hvs3⟩:=id hv
  obtain⟨mb,mc,rfl,_⟩:=id hvs2
  refine Cl_of (pol:=fun | 1=>.imm | _=>.loc) Γok Tryz.func66 (by kernel_rfl) rfl ?_
  conv=>whnf
  intro b hb hO
  conv=>whnf
  intro b2
  conv=>whnf
  have hs0:=sub_ins H (.cells ⟨[.slice mb m.length mc]⟩ 23 (0,0)) hb
  refine (c89 m.length _).val fun H1 hs1=>?_
  conv=>whnf
  have hall:∀ H',Sub H1 H'→(vs.all fun u=>goodRow m (lenV u))=m.all fun r=>goodRow m r.length:=by
    intro H' _
    have:=any_rows (fun k=>!goodRow m k) hvs1 hvs3
    rw[List.all_eq_not_any_not,List.all_eq_not_any_not,this]
  refine if_intro (fun h=>?_) (fun h=>?_)
  · conv=>whnf
    unfold checkMF
    rw[h]
    rfl
  have hsz:sizedF m.length=true:=by simpa using h
  have hm:0 < m.length:=by
    unfold sizedF at hsz
    simp at hsz
    omega
  conv=>whnf
  refine (c90 vs (fun u=>goodRow m (lenV u)) _ _ _ _ _ (by rw[hvs1];exact (hvs2.up hs0).up hs1) (fun x hx=>?_) (by omega)).val fun H2 hs2=>?_
  · obtain⟨i,hi⟩:=List.mem_iff_getElem?.1 hx
    have hlt:=(List.getElem?_eq_some_iff.1 hi).1
    obtain⟨xb,xc,rfl,_⟩:=hvs3 i m[i] x (List.getElem?_eq_getElem (by omega)) hi
    exact⟨151,[],[_],rfl,fun H' hs'=>c91 m _ _ _ H' b _ _ hm ((hs1.trans hs') _ _ (ins_same _ _ _)) (hv.up (hs0.trans (hs1.trans hs')))⟩
  conv=>whnf
  rw[hall H2 hs2]
  refine if_intro (fun h2=>?_) (fun h2=>?_)
  · conv=>whnf
    unfold checkMF
    rw[h2,Bool.or_true]
    rfl
  conv=>whnf
  have hrow:∀ r∈m,0 < r.length∧r.length≤64∧r.length=(m.headD []).length:=by
    intro r hr
    have:=List.all_eq_true.1 (show (m.all fun r=>goodRow m r.length)=true by simpa using h2) r hr
    unfold goodRow sizedF at this
    simp at this
    simp
    omega
  refine (c92 (m.map List.length) _ _ (by simpa using hlen) (fun n hn=>by obtain⟨r,hr,rfl⟩:=List.mem_map.1 hn;have:=hrow r hr;omega) (hv.up (hs0.trans (hs1.trans hs2))).shape).use fun it H3 hs3 hit=>?_
  obtain⟨_,hit⟩:=hit
  conv=>whnf
  have hmf:checkMF m=firstErr ((m.flatten).map fun x=>checkF x.1 x.2):=by
    unfold checkMF
    rw[show (!sizedF m.length)=false from h,show (!(m.all fun r=>goodRow m r.length))=false from h2]
    rfl
  refine W_range (pol:=fun | 1=>.imm | _=>.loc) Γok (placesFrom 0 m) hit Int (fun k e _=>e=0∧checkMF m=firstErr ((m.flatten.drop k).map fun x=>checkF x.1 x.2)) (fun x e _=>x=.ret∧e=checkMF m) (fun e=>[(1,[.int .i64 e])]) (fun _=>emp) (fun _ _ _ _ _ h=>h) (fun _ _ _ _ _ h=>h) ⟨0,⟨rfl,by simpa using hmf⟩,rfl,?_⟩ ?_ ?_ ?_
  · conv=>whnf
  · rintro n x hx e H' hs' ⟨rfl,hn⟩ l o o' hl
    obtain⟨i,k,hi,hk,rfl,hfl⟩:=placesFrom_inv m 0 n x hx
    rw[Nat.zero_add]
    conv=>whnf
    intro b3
    conv=>whnf
    refine⟨rfl,?_⟩
    conv=>whnf
    refine⟨emp,rfl,?_⟩
    conv=>whnf
    have hst:=firstErr_step (fun x:P4 × Int=>checkF x.1 x.2) (List.getElem?_eq_some_iff.1 hfl).1
    rw[(List.getElem?_eq_some_iff.1 hfl).2] at hst
    refine (c84 m i k hi hk _ _ (hv.up (hs0.trans (hs1.trans (hs2.trans (hs3.trans hs')))))).val fun H4 hs4=>?_
    conv=>whnf
    refine (c93 m[i][k].1 m[i][k].2 _).val fun H5 hs5=>?_
    conv=>whnf
    refine if_intro (fun he=>?_) (fun he=>?_)
    · conv=>whnf
      have hne:¬ checkF m[i][k].1 m[i][k].2=0:=by simpa using he
      rw[if_neg hne] at hst
      refine⟨checkMF m,.inr ⟨⟨rfl,rfl⟩,rfl⟩,rfl,rfl,?_⟩
      conv=>whnf
      repeat (refine⟨rfl,?_⟩;conv=>whnf)
      refine⟨by rw[hn,hst],?_⟩
      conv=>whnf
      exact trivial
    · conv=>whnf
      refine⟨0,.inl ⟨rfl,rfl,?_⟩,rfl,rfl,?_⟩
      · rw[hn,hst,if_pos (by simpa using he)]
      · conv=>whnf
        repeat (refine⟨rfl,?_⟩;conv=>whnf)
        exact trivial
  · rintro e H' hs' ⟨rfl,hn⟩
    have hnil:(m.flatten.drop (placesFrom 0 m).length)=[]:=by
      unfold placesFrom
      rw[placesN_length]
      exact List.drop_of_length_le (by rw[List.length_flatten];exact Nat.le_refl _)
    rw[hnil] at hn
    conv=>whnf
    rw[hn]
    rfl
  · rintro x e H' hs' ⟨rfl,rfl⟩
    conv=>whnf
end Go.Proofs.YtgbhgfdgifkdhaaGreat

namespace Go.Proofs.YtgbhgfdgifkdhaaGreat
open Go.Proofs.YtgbhgfdgifkdhaaGreat.X Go.Proofs.YtgbhgfdgifkdhaaGreat.X.PH
set_option maxRecDepth 100000
def rowV (b n : Nat):Value:=.slice (some ⟨b,0,none⟩) n n
structure RowsO (M : PH) (bs:List Nat) (m:List (List (P4 × Int))):Prop where
  len:bs.length=m.length
  nodup:bs.Nodup
  cells:∀ (i b:Nat) (r:List (P4 × Int)),bs[i]?=some b→m[i]?=some r→M b=some (.cells ⟨cellsN r⟩ 33 (0,0))
theorem RowsO.snoc {M : PH} {bs:List Nat} {m:List (List (P4 × Int))} {b:Nat} {r:List (P4 × Int)} (h:RowsO M bs m) (hb:M b=none):RowsO (ins M b (.cells ⟨cellsN r⟩ 33 (0,0))) (bs++[b]) (m++[r]):=by
  have hne:∀ (i c:Nat),bs[i]?=some c→c ≠ b:=by
    intro i c hc e
    subst e
    have hlt:=(List.getElem?_eq_some_iff.1 hc).1
    have hlt':i < m.length:=by rw[← h.len];exact hlt
    have:=h.cells i c m[i] hc (List.getElem?_eq_getElem hlt')
    rw[hb] at this;cases this
  refine⟨by simp[h.len],?_,fun i c r' hc hr=>?_⟩
  · rw[List.nodup_append]
    refine⟨h.nodup,by simp,fun a ha c hc e=>?_⟩
    simp at hc
    obtain⟨i,hi⟩:=List.mem_iff_getElem?.1 ha
    exact hne i a hi (e.trans hc)
  · rcases Nat.lt_trichotomy i m.length with hi | hi | hi
    · rw[List.getElem?_append_left (by rw[h.len];exact hi)] at hc
      rw[List.getElem?_append_left hi] at hr
      rw[ins_ne _ _ (hne i c hc)]
      exact h.cells i c r' hc hr
    · subst hi
      rw[← h.len] at hc
      simp at hr
      rw[List.getElem?_append_right (Nat.le_refl _)] at hc
      simp at hc
      subst hc hr
      exact ins_same _ _ _
    · rw[List.getElem?_eq_none (by simp;omega)] at hr
      cases hr
theorem RowsO.other {M : PH} {bs:List Nat} {m:List (List (P4 × Int))} {b:Nat} {o:Obj} (h:RowsO M bs m) (hb:b ∉ bs):RowsO (ins M b o) bs m:=
  ⟨h.len,h.nodup,fun i c r hc hr=>by
    have:c ≠ b:=fun e=>by subst e;exact hb (List.mem_of_getElem? hc)
    rw[ins_ne _ _ this];exact h.cells i c r hc hr⟩
def OwnM (M : PH) (v:Value) (h w:Nat) (m:List (List (P4 × Int))):Prop:=
  m.length=h∧(∀ (i:Nat) r,m[i]?=some r→r.length=w)∧∃ bs b0,RowsO M bs m∧b0 ∉ bs∧v=.slice (some ⟨b0,0,none⟩) h h∧M b0=some (.cells ⟨bs.map fun b=>rowV b w⟩ 31 (0,0))
def zeros (w : Nat):List (P4 × Int):=List.replicate w (P4.zero,0)
theorem set_at {α : Type} (xs:List α) (z y:α) {i h:Nat} (hl:xs.length=i) (hi:i < h) :
    List.take (0+i*1) (xs++List.replicate (h - i) z)++[y]++List.drop (0+i*1+1) (xs++List.replicate (h - i) z)=xs++[y]++List.replicate (h - (i+1)) z:=by
  subst hl
  rw[Nat.zero_add,Nat.mul_one,List.take_left,← List.drop_drop,List.drop_left,List.drop_replicate]
  congr 2
theorem c73 (h w : Nat) (hh:h < 1000000) (hw:w < 1000000) (H:PH):Cl Tryz.prog 105 [.int .i64 h,.int .i64 w] H emp fun r H' M'=>Dis H' M'∧OwnM M' r h w (List.replicate h (zeros w)):=by
  refine Cl.repart (Q:=fun r H' M'=>∃ bs b0,RowsO M' bs (List.replicate h (zeros w))∧b0 ∉ bs∧r=.slice (some ⟨b0,0,none⟩) h h∧M' b0=some (.cells ⟨bs.map fun b=>rowV b w⟩ 31 (0,0))) ?_ ?_
  · refine Cl_of (pol:=polL) Γok Tryz.func105 (by kernel_rfl) rfl ?_
    conv=>whnf
    refine dec_intro (Int.le_refl _) ?_
    conv=>whnf
    refine dec_intro (by omega) ?_
    conv=>whnf
    refine dec_intro (by omega) ?_
    conv=>whnf
    intro b0 hb0 _
    conv=>whnf
    refine W_loop (pol:=polL) Γok (Nat × List Nat × PH) (fun i=>i.1≤h∧RowsO i.2.2 i.2.1 (List.replicate i.1 (zeros w))∧b0 ∉ i.2.1∧i.2.2 b0=some (.cells ⟨(i.2.1.map fun b=>rowV b w)++List.replicate (h - i.1) (.slice none 0 0)⟩ 31 (0,0))) (fun i=>h - i.1) (fun i=>[(11,.v (.int .i64 i.1))]) (fun _=>[]) (fun _=>H) (fun i=>i.2.2) ⟨(0,[],ins emp b0 (.cells ⟨(List.replicate h [Value.slice none 0 0]).flatten⟩ 31 (0,0))),⟨by simp,⟨rfl,List.nodup_nil,by simp⟩,by simp,?_⟩,rfl,rfl,?_⟩ ?_
    · show ins _ _ _ b0=_
      rw[ins_same]
      simp
    · conv=>whnf
      repeat (refine⟨rfl,?_⟩;conv=>whnf)
      exact trivial
    · rintro ⟨i,bs,O'⟩ ⟨h1,h2,h3,h4⟩
      dsimp only at h1 h2 h3 h4
      conv=>whnf
      refine if_intro (fun hg=>?_) (fun hg=>?_)
      · have hi:i < h:=by simpa using hg
        conv=>whnf
        refine dec_intro (Int.le_refl _) ?_
        conv=>whnf
        refine dec_intro (by omega) ?_
        conv=>whnf
        refine dec_intro (by omega) ?_
        conv=>whnf
        intro b2 hb2 hO2
        conv=>whnf
        refine dec_intro (by simpa using hi) ?_
        conv=>whnf
        have hbl:bs.length=i:=by have:=h2.len;simpa using this
        have hbne:b0 ≠ b2:=fun e=>by subst e;dsimp only at hO2;rw[h4] at hO2;cases hO2
        refine⟨_,_,(ins_ne _ _ hbne).trans h4,?_,?_⟩
        · simp
          omega
        conv=>whnf
        refine⟨(i+1,bs++[b2],ins (ins O' b2 (.cells ⟨(List.replicate w [.int .i64 0,.int .i64 0,.int .i64 0,.int .i64 0,.int .i64 0]).flatten⟩ 33 (0,0))) b0 (.cells ⟨((bs++[b2]).map fun b=>rowV b w)++List.replicate (h - (i+1)) (.slice none 0 0)⟩ 31 (0,0))),⟨hi,?_,?_,?_⟩,by dsimp only;omega,?_⟩
        · show RowsO _ (bs++[b2]) (List.replicate (i+1) (zeros w))
          rw[List.replicate_succ']
          have hcz:(List.replicate w [.int .i64 0,.int .i64 0,.int .i64 0,.int .i64 0,.int .i64 0]).flatten=cellsN (zeros w):=by
            unfold cellsN zeros
            rw[List.map_replicate]
            rfl
          rw[hcz]
          refine (h2.snoc hO2).other ?_
          simp[h3,hbne]
        · show ¬ b0∈bs++[b2]
          simp[h3,hbne]
        · exact ins_same _ _ _
        · conv=>whnf
          refine⟨rfl,?_,?_⟩
          · show ins (ins O' b2 _) b0 _=ins (ins O' b2 _) b0 _
            congr 3
            rw[List.map_append]
            exact (set_at (bs.map fun b=>rowV b w) (.slice none 0 0) (rowV b2 w) (by simpa using hbl) hi).symm
          conv=>whnf
          repeat (refine⟨rfl,?_⟩;conv=>whnf)
          refine⟨by show En.v (.int .i64 (IntKind.i64.wrap (i+1)))=_;rw[wrap_id (by omega) (by omega)];rfl,?_⟩
          conv=>whnf
          repeat (refine⟨rfl,?_⟩;conv=>whnf)
          exact trivial
      · have hi:i=h:=by simp at hg;omega
        conv=>whnf
        subst hi
        refine⟨bs,b0,h2,h3,?_,?_⟩
        · simp
        · rw[Nat.sub_self,List.replicate_zero,List.append_nil] at h4
          exact h4
  · rintro r H' M' hsub hd hq
    exact⟨_,_,.refl hd,hd,by simp,(fun i r hr=>by simp[List.getElem?_replicate] at hr;rw[← hr.2];simp[zeros]),hq⟩
end Go.Proofs.YtgbhgfdgifkdhaaGreat

namespace Go.Proofs.YtgbhgfdgifkdhaaGreat
open Go.Proofs.YtgbhgfdgifkdhaaGreat.X Go.Proofs.YtgbhgfdgifkdhaaGreat.X.PH
set_option maxRecDepth 100000
theorem placesN_uniform {h w n : Nat} (hn:n < h*w):n / w < h∧n % w < w∧(placesN 0 (List.replicate h w))[n]?=some [place (n / w) (n % w)]:=by
  have hw:0 < w:=by
    rcases Nat.eq_zero_or_pos w with e | e
    · rw[e] at hn;simp at hn
    · exact e
  have h1:n / w < h:=Nat.div_lt_of_lt_mul (by rw[Nat.mul_comm];exact hn)
  have h2:n % w < w:=Nat.mod_lt _ hw
  refine⟨h1,h2,?_⟩
  have:=placesN_get (List.replicate h w) 0 (n / w) (n % w) (by simpa using h1) (by simpa using h2)
  have e:offs (List.replicate h w) (n / w)=(n / w)*w:=by
    unfold offs
    rw[List.take_replicate,Nat.min_eq_left (by omega)]
    simp
  rw[e,Nat.mul_comm,Nat.div_add_mod,Nat.zero_add] at this
  exact this
theorem placesN_uniform_length (h w : Nat):(placesN 0 (List.replicate h w)).length=h*w:=by
  rw[placesN_length];simp
def setM (m : List (List (P4 × Int))) (i k:Nat) (x:P4 × Int):List (List (P4 × Int)):=m.set i ((m.getD i []).set k x)
def fills (F : Nat→Nat→(P4 × Int) × Int) (h w:Nat):Nat→List (List (P4 × Int))
  | 0=>List.replicate h (zeros w)
  | n+1=>setM (fills F h w n) (n / w) (n % w) (F (n / w) (n % w)).1
theorem fills_shape (F : Nat→Nat→(P4 × Int) × Int) (h w:Nat):∀ n,(fills F h w n).length=h∧∀ (i:Nat) (r:List (P4 × Int)),(fills F h w n)[i]?=some r→r.length=w
  | 0=>⟨by simp[fills],fun i r hr=>by
      simp[fills,List.getElem?_replicate] at hr
      rw[← hr.2];simp[zeros]⟩
  | n+1=>by
    obtain⟨h1,h2⟩:=fills_shape F h w n
    refine⟨by simp[fills,setM,h1],fun i r hr=>?_⟩
    simp only[fills,setM] at hr
    by_cases e:n / w=i
    · by_cases hi:n / w < (fills F h w n).length
      · rw[← e,List.getElem?_set_self hi] at hr
        cases hr
        rw[List.length_set,List.getD_eq_getElem?_getD,List.getElem?_eq_getElem hi]
        exact h2 _ _ (List.getElem?_eq_getElem hi)
      · rw[List.getElem?_eq_none (by simp;omega)] at hr
        cases hr
    · rw[List.getElem?_set_ne e] at hr
      exact h2 i r hr
theorem cellsN_set : ∀ (r:List (P4 × Int)) (k:Nat) (x:P4 × Int),k < r.length→(cellsN r).take (0+k*5)++cellsOf x++(cellsN r).drop (0+k*5+5)=cellsN (r.set k x)
  | y::r,0,x,_=>by
    simp only[cellsN,List.set_cons_zero,List.map_cons,List.flatten_cons]
    rfl
  | y::r,k+1,x,h=>by
    have ih:=cellsN_set r k x (by simpa using h)
    simp only[cellsN,List.set_cons_succ,List.map_cons,List.flatten_cons] at ih ⊢
    rw[← ih]
    have e:0+(k+1)*5=(0+k*5)+5:=by omega
    have e2:0+(k+1)*5+5=(0+k*5+5)+5:=by omega
    rw[e2,e]
    simp[cellsOf,List.take_succ_cons]
def errsE (F : Nat→Nat→(P4 × Int) × Int) (h w:Nat):List Int:=(List.range (h*w)).map fun n=>(F (n / w) (n % w)).2
theorem ins_comm (M : PH) {a b:Nat} (x y:Obj) (h:a ≠ b):ins (ins M a x) b y=ins (ins M b y) a x:=by
  funext n
  unfold ins
  by_cases e:n=a
  · subst e;simp[h]
  · by_cases f:n=b
    · subst f;simp[e]
    · simp[e,f]
theorem RowsO.set {M : PH} {bs:List Nat} {m:List (List (P4 × Int))} (hr:RowsO M bs m) {i k:Nat} (x:P4 × Int) {b:Nat} (hb:bs[i]?=some b) :
    RowsO (ins M b (.cells ⟨cellsN ((m.getD i []).set k x)⟩ 33 (0,0))) bs (setM m i k x):=by
  refine⟨by simp[setM,hr.len],hr.nodup,fun j c r hc hr'=>?_⟩
  have hi:=(List.getElem?_eq_some_iff.1 hb).1
  have hj:=(List.getElem?_eq_some_iff.1 hc).1
  by_cases e:j=i
  · subst e
    rw[hb] at hc
    cases hc
    unfold setM at hr'
    rw[List.getElem?_set_self (by rw[← hr.len];exact hi)] at hr'
    cases hr'
    exact ins_same _ _ _
  · have hne:c ≠ b:=by
      intro e'
      subst e'
      apply e
      have h1:=(List.getElem?_eq_some_iff.1 hb).2
      have h2:=(List.getElem?_eq_some_iff.1 hc).2
      exact (List.getElem_inj hr.nodup).1 (h2.trans h1.symm)
    rw[ins_ne _ _ hne]
    unfold setM at hr'
    rw[List.getElem?_set_ne (Ne.symm e)] at hr'
    exact hr.cells j c r hc hr'
theorem errsE_step {F : Nat→Nat→(P4 × Int) × Int} {h w n:Nat} (hn:n < h*w):firstErr ((errsE F h w).drop n)=if (F (n / w) (n % w)).2=0 then firstErr ((errsE F h w).drop (n+1)) else (F (n / w) (n % w)).2:=by
  rw[List.drop_eq_getElem_cons (by simpa[errsE] using hn)]
  simp[errsE,firstErr]
theorem c150 (F : Nat→Nat→(P4 × Int) × Int) (h w:Nat) (hh:h < 1000000) (hw:w < 1000000) (H M:PH) (base:Option Addr) (cap:Nat) (fn:Fn) (first cp:Array Value) (bs:List Nat)
    (hrows:RowsO M bs (List.replicate h (zeros w))) (hsl:SlH H (.slice base h cap) h (bs.map fun b=>rowV b w)) (hf:∀ i k,i < h→k < w→Does Tryz.prog H (.func fn first cp) [place i k] fun r _=>r=ne (F i k)) :
    Cl Tryz.prog 201 [.agg ⟨[.slice base h cap,.func fn first cp]⟩] H M fun r H' M'=>
      (firstErr (errsE F h w) ≠ 0∧r=.tuple #[.slice none 0 0,.int .i64 (firstErr (errsE F h w))]) ∨
      (firstErr (errsE F h w)=0∧r=.tuple #[.slice base h cap,.int .i64 0]∧RowsO M' bs (fills F h w (h*w))):=by
  have hbl:bs.length=h:=by have:=hrows.len;simpa using this
  have hshape:ShapeH H (.slice base h cap) (List.replicate h w):=⟨bs.map fun b=>rowV b w,by simp[hbl],by simpa using hsl,fun i n u hn hu=>by
    simp[List.getElem?_replicate] at hn
    rw[List.getElem?_map] at hu
    obtain⟨b,_,rfl⟩:=Option.map_eq_some_iff.1 hu
    exact⟨_,_,by rw[← hn.2];rfl⟩⟩
  refine Cl_of (pol:=polL) Γok Tryz.func201 (by kernel_rfl) rfl ?_
  conv=>whnf
  repeat (intro _;conv=>whnf)
  refine (c92 (List.replicate h w) _ _ (by simpa using hh) (fun n hn=>by rw[(List.mem_replicate.1 hn).2];exact hw) hshape).use fun it H1 hs1 hit=>?_
  obtain⟨_,hit⟩:=hit
  conv=>whnf
  refine W_range (pol:=polL) Γok (placesN 0 (List.replicate h w)) hit (PH × Int) (fun n x _=>x.2=0∧RowsO x.1 bs (fills F h w n)∧firstErr (errsE F h w)=firstErr ((errsE F h w).drop n)) (fun e x _=>e=.ret∧x.2=firstErr (errsE F h w)∧x.2 ≠ 0) (fun x=>[(2,[.int .i64 x.2])]) (fun x=>x.1) (fun _ _ _ _ _ h=>h) (fun _ _ _ _ _ h=>h) ⟨(M,0),⟨rfl,hrows,by simp⟩,rfl,?_⟩ ?_ ?_ ?_
  · conv=>whnf
  · rintro n x hx ⟨O,e⟩ H' hs' ⟨he,hrw,hn⟩ l o o' hl
    dsimp only at he hrw hl
    subst he
    have hlt:n < h*w:=by
      rw[← placesN_uniform_length h w]
      exact (List.getElem?_eq_some_iff.1 hx).1
    obtain⟨g1,g2,g3⟩:=placesN_uniform hlt
    rw[g3] at hx
    cases hx
    have hst:=errsE_step (F:=F) hlt
    conv=>whnf
    intro b5
    conv=>whnf
    refine⟨rfl,?_⟩
    conv=>whnf
    refine⟨O,rfl,?_⟩
    conv=>whnf
    refine (((hf _ _ g1 g2).up hs1).up hs').use fun r H2 hs2 hr=>?_
    subst hr
    conv=>whnf
    intro b6
    conv=>whnf
    refine if_intro (fun he=>?_) (fun he=>?_)
    · conv=>whnf
      have hne:¬ (F (n / w) (n % w)).2=0:=by simpa using he
      rw[if_neg hne] at hst
      refine⟨(O,(F (n / w) (n % w)).2),.inr ⟨⟨rfl,(hn.trans hst).symm,hne⟩,rfl⟩,hl,rfl,?_⟩
      conv=>whnf
      repeat (refine⟨rfl,?_⟩;conv=>whnf)
      exact trivial
    · conv=>whnf
      have h0:(F (n / w) (n % w)).2=0:=by simpa using he
      rw[if_pos h0] at hst
      refine W_draw (pol:=polL) Γok mixes [(0,.pendO),(1,.pendO),(2,.pendO),(3,.pendO),(4,.pendO),(5,.pendO),(6,.pendO),(7,.pendO),(8,.pendO),(9,.pendO),(10,.lock)] 33 (by kernel_rfl) rfl ?_
      obtain⟨b0,off0,rfl,hrd0⟩:=SlH.rd (O:=ins O l o') (sz:=1) (((hsl.up hs1).up hs').up hs2) (by simp[hbl]) g1
      have hbi:n / w < bs.length:=by omega
      have e0:(List.take 1 (List.drop (n / w*1) (bs.map fun b=>rowV b w)))=[rowV bs[n / w] w]:=by
        rw[Nat.mul_one,List.drop_eq_getElem_cons (by simpa using hbi),List.take_succ_cons,List.take_zero,List.getElem_map]
      rw[e0] at hrd0
      conv=>whnf
      refine dec_intro (by omega) ?_
      conv=>whnf
      refine⟨_,hrd0,?_⟩
      conv=>whnf
      refine dec_intro (by omega) ?_
      conv=>whnf
      obtain⟨s1,s2⟩:=fills_shape F h w n
      have hil:n / w < (fills F h w n).length:=by omega
      have hrl:=s2 _ _ (List.getElem?_eq_getElem hil)
      have hOb:=hrw.cells (n / w) bs[n / w] _ (List.getElem?_eq_getElem hbi) (List.getElem?_eq_getElem hil)
      have hbl':bs[n / w] ≠ l:=fun e=>by rw[e] at hOb;rw[hl] at hOb;cases hOb
      refine⟨_,_,(ins_ne _ _ hbl').trans hOb,?_,?_⟩
      · show _≤(cellsN _).length
        rw[cellsN_length,hrl]
        simp only[Int.toNat_natCast,List.length_cons,List.length_nil]
        omega
      conv=>whnf
      have hcs:=cellsN_set (fills F h w n)[n / w] (n % w) (F (n / w) (n % w)).1 (by omega)
      refine⟨(ins O bs[n / w] (.cells ⟨cellsN (((fills F h w n).getD (n / w) []).set (n % w) (F (n / w) (n % w)).1)⟩ 33 (0,0)),0),.inl ⟨rfl,rfl,hrw.set _ (List.getElem?_eq_getElem hbi),hn.trans hst⟩,?_,?_,?_⟩
      · dsimp only
        rw[ins_ne _ _ hbl'.symm];exact hl
      · dsimp only
        rw[ins_comm O _ _ hbl']
        congr 3
        rw[List.getD_eq_getElem?_getD,List.getElem?_eq_getElem hil,Option.getD_some,← hcs]
        rfl
      conv=>whnf
      repeat (refine⟨rfl,?_⟩;conv=>whnf)
      exact trivial
  · rintro ⟨O,e⟩ H' hs' ⟨he,hrw,hn⟩
    dsimp only at he hrw
    subst he
    rw[List.drop_of_length_le (by rw[placesN_uniform_length];simp[errsE])] at hn
    conv=>whnf
    rw[placesN_uniform_length] at hrw
    exact .inr ⟨hn,rfl,hrw⟩
  · rintro e ⟨O,e'⟩ H' hs' ⟨rfl,he,hne⟩
    dsimp only at he hne
    conv=>whnf
    subst he
    exact .inl ⟨hne,rfl⟩
end Go.Proofs.YtgbhgfdgifkdhaaGreat

namespace Go.Proofs.YtgbhgfdgifkdhaaGreat
open Go.Proofs.YtgbhgfdgifkdhaaGreat.X Go.Proofs.YtgbhgfdgifkdhaaGreat.X.PH
set_option maxRecDepth 100000
def P4.within (p : P4) (n:Int):Prop:=(-n≤p.a∧p.a≤n)∧(-n≤p.b∧p.b≤n)∧(-n≤p.c∧p.c≤n)∧(-n≤p.d∧p.d≤n)
theorem inN_iff {n x : Int} (h0:0≤n) (h1:n < 9223372036854775808):inN n x=true ↔ -n≤x∧x≤n:=by
  unfold inN
  rw[wrap_id (by omega) (by omega)]
  simp
  omega
theorem all_iff {p : P4} {n:Int} (h0:0≤n) (h1:n < 9223372036854775808):p.list.all (inN n)=true ↔ p.within n:=by
  simp only[P4.list,List.all_cons,List.all_nil,Bool.and_eq_true,inN_iff h0 h1,P4.within,and_true]
theorem beyond_iff {p : P4} {n:Int} (h0:0≤n) (h1:n < 9223372036854775808):beyondF p n=true ↔ ¬ p.within n:=by
  unfold beyondF P4.within
  rw[wrap_id (by omega) (by omega)]
  simp only[Bool.or_eq_true,decide_eq_true_eq]
  omega
theorem beyond_all {p : P4} {n:Int} (h0:0≤n) (h1:n < 9223372036854775808):beyondF p n=!(p.list.all (inN n)):=by
  have a:=all_iff (p:=p) h0 h1
  have b:=beyond_iff (p:=p) h0 h1
  cases e:p.list.all (inN n)<;>cases f:beyondF p n<;>simp_all
theorem checkF_checkR (p : P4) (k:Int):checkF p k=checkR p k:=by
  unfold checkF checkR
  rw[beyond_all (by decide) (by decide)]
  split
  · rfl
  · cases p.list.all (inN 1073741824)<;>rfl
theorem low_mod (x : Int):low x=x % 2:=by
  unfold low
  have e:(BitVec.ofInt IntKind.i64.bits x &&& BitVec.ofInt IntKind.i64.bits 1).toNat=(x % 2).toNat:=by
    show (BitVec.ofInt 64 x &&& BitVec.ofInt 64 1).toNat=_
    rw[BitVec.toNat_and,BitVec.toNat_ofInt,BitVec.toNat_ofInt]
    show (x % 18446744073709551616).toNat &&& 1=_
    rw[Nat.and_one_is_mod]
    omega
  rw[e,wrap_id (by omega) (by omega)]
  omega
theorem shr1_div (x : Int):shr1 x=x / 2:=by
  unfold shr1
  show x.fdiv (2 ^ 1)=_
  rw[Int.fdiv_eq_ediv_of_nonneg _ (by decide)]
  rfl
theorem tm2 {x : Int}:x.tmod 2=0 ↔ x % 2=0:=
  ⟨fun h=>Int.emod_eq_zero_of_dvd (Int.dvd_of_tmod_eq_zero h),fun h=>Int.tmod_eq_zero_of_dvd (Int.dvd_of_emod_eq_zero h)⟩
theorem td2 {x : Int} (h:x % 2=0):x.tdiv 2=x / 2:=Int.tdiv_eq_ediv_of_dvd (Int.dvd_of_emod_eq_zero h)
theorem even_eq {p : P4} (h:p.within 1073741824):p.even=evenR p:=by
  obtain⟨h1,h2,h3,h4⟩:=h
  unfold P4.even evenR wr
  rw[wrap_id (by omega) (by omega),wrap_id (by omega) (by omega),Bool.eq_iff_iff]
  simp only[Bool.and_eq_true,beq_iff_eq,tm2,low_mod]
  omega
theorem evenR_iff {p : P4}:evenR p=true ↔ p.a % 2=p.c % 2∧p.b % 2=p.d % 2:=by
  unfold evenR
  simp only[Bool.and_eq_true,beq_iff_eq,low_mod]
theorem half_eq {p : P4} (h:p.within 1073741824) (he:evenR p=true):p.half=halvedR p∧p.half.within 1073741824:=by
  obtain⟨h1,h2,h3,h4⟩:=h
  obtain⟨e1,e2⟩:=evenR_iff.1 he
  have w:∀ x:Int,-4294967296≤x→x≤4294967296→wr x=x:=fun x a b=>wrap_id (by omega) (by omega)
  have b1:=w (p.b - p.d) (by omega) (by omega)
  have b2:=w (p.a+p.c) (by omega) (by omega)
  have b3:=w (p.b+p.d) (by omega) (by omega)
  have b4:=w (p.c - p.a) (by omega) (by omega)
  have t1:=td2 (x:=p.b - p.d) (by omega)
  have t2:=td2 (x:=p.a+p.c) (by omega)
  have t3:=td2 (x:=p.b+p.d) (by omega)
  have t4:=td2 (x:=p.c - p.a) (by omega)
  have e:p.half=⟨(p.b - p.d) / 2,(p.a+p.c) / 2,(p.b+p.d) / 2,(p.c - p.a) / 2⟩:=by
    unfold P4.half
    rw[b1,b2,b3,b4,t1,t2,t3,t4,w _ (by omega) (by omega),w _ (by omega) (by omega),w _ (by omega) (by omega),w _ (by omega) (by omega)]
  refine⟨?_,?_⟩
  · rw[e]
    unfold halvedR
    simp only[shr1_div,low_mod]
    rw[w (p.b / 2 - p.d / 2) (by omega) (by omega),w (p.a / 2+p.c / 2) (by omega) (by omega),w (p.b / 2+p.d / 2) (by omega) (by omega),w (p.c / 2 - p.a / 2) (by omega) (by omega),w _ (by omega) (by omega),w _ (by omega) (by omega)]
    congr 1<;>omega
  · rw[e]
    unfold P4.within
    dsimp only
    omega
theorem lower_eq : ∀ (k:Nat) (p:P4),p.within 1073741824→lower k p=lowerR k p∧(lower k p).1.within 1073741824
  | 0,p,h=>⟨rfl,h⟩
  | k+1,p,h=>by
    unfold lower lowerR
    rw[even_eq h]
    cases e:evenR p with
    | false=>exact⟨rfl,h⟩
    | true=>
      obtain⟨h1,h2⟩:=half_eq h e
      obtain⟨h3,h4⟩:=lower_eq k p.half h2
      simp only[if_true]
      rw[← h1]
      exact⟨h3,h4⟩
theorem least_eq {p : P4} {k:Int} (h:checkF p k=0):leastF p k=(formR p k,0):=by
  obtain⟨k1,k2,hp⟩:=checkF_range h
  have hw:=(all_iff (by decide) (by decide)).1 hp
  unfold leastF formR
  split
  · rfl
  unfold lowered
  split
  · rename_i h0
    obtain⟨h1,h2⟩:=lower_eq k.toNat p hw
    have hle:=lower_le k.toNat p
    have hr:=(all_iff (p:=(lower k.toNat p).1) (n:=1073741824) (by decide) (by decide)).2 h2
    rw[show (-(((lower k.toNat p).1,((lower k.toNat p).2:Int)).2)).toNat=0 by dsimp only;omega]
    rw[← h1]
    show leastE (some _) _=_
    rw[leastE_some,if_neg (by dsimp only;omega),if_pos hr]
    dsimp only
    rw[Int.max_eq_left (by omega)]
  · rw[show (-((p,k).2)).toNat=0 by dsimp only;omega]
    show leastE (some _) _=_
    rw[leastE_some,if_neg (by dsimp only;omega),if_pos hp]
    dsimp only
    rw[Int.max_eq_left (by omega)]
theorem LeastF_eq {p : P4} {k:Int} (h:checkF p k=0):LeastF p k=(formR p k,0):=by
  unfold LeastF
  rw[if_pos h,least_eq h]
theorem firstErr_append : ∀ (l m:List Int),firstErr (l++m)=if firstErr l=0 then firstErr m else firstErr l
  | [],m=>rfl
  | e::l,m=>by
    simp only[List.cons_append,firstErr]
    split
    · exact firstErr_append l m
    · rfl
theorem firstErr_flat {α : Type} (f:α→Int):∀ m:List (List α),firstErr (m.flatten.map f)=firstErr (m.map fun r=>firstErr (r.map f))
  | []=>rfl
  | r::m=>by
    rw[List.flatten_cons,List.map_append,firstErr_append,firstErr_flat f m]
    rfl
theorem bad_good (m : List (List (P4 × Int))) (r:List (P4 × Int)):badRow m r=!goodRow m r.length:=by
  unfold badRow goodRow sizedF
  rw[Bool.eq_iff_iff]
  simp only[Bool.or_eq_true,decide_eq_true_eq,bne_iff_ne,Bool.not_eq_true',Bool.and_eq_false_iff,decide_eq_false_iff_not,beq_eq_false_iff_ne]
  omega
theorem checkMF_checkMR (m : List (List (P4 × Int))):checkMF m=checkMR m:=by
  unfold checkMF checkMR
  have e1:(!sizedF m.length)=(decide ((m.length:Int) < 1) || decide ((m.length:Int) > 64)):=by
    unfold sizedF
    rw[Bool.eq_iff_iff]
    simp only[Bool.or_eq_true,decide_eq_true_eq,Bool.not_eq_true',Bool.and_eq_false_iff,decide_eq_false_iff_not]
    omega
  have e2:(!(m.all fun r=>goodRow m r.length))=m.any (badRow m):=by
    rw[List.not_all_eq_any_not]
    congr 1
    funext r
    exact (bad_good m r).symm
  rw[e1,e2,firstErr_flat]
  simp only[checkF_checkR]
  cases decide ((m.length:Int) < 1) || decide ((m.length:Int) > 64)<;>cases m.any (badRow m)<;>rfl
def entry (m : List (List (P4 × Int))) (i k:Nat):P4 × Int:=(m.getD i []).getD k (P4.zero,0)
theorem mat_ext {a b : List (List (P4 × Int))} {h w:Nat} (a1:a.length=h) (a2:∀ (i:Nat) r,a[i]?=some r→r.length=w) (b1:b.length=h) (b2:∀ (i:Nat) r,b[i]?=some r→r.length=w)
    (he:∀ i k,i < h→k < w→entry a i k=entry b i k):a=b:=by
  apply List.ext_getElem (a1.trans b1.symm)
  intro i hi hi'
  have l1:=a2 i _ (List.getElem?_eq_getElem hi)
  have l2:=b2 i _ (List.getElem?_eq_getElem hi')
  apply List.ext_getElem (l1.trans l2.symm)
  intro k hk hk'
  have:=he i k (by omega) (by omega)
  unfold entry at this
  simpa[List.getD_eq_getElem?_getD,hi,hi',hk,hk'] using this
theorem entry_set {m : List (List (P4 × Int))} {h w:Nat} (h1:m.length=h) (h2:∀ (i:Nat) r,m[i]?=some r→r.length=w) {i0 k0:Nat} (x:P4 × Int) (hi0:i0 < h) (hk0:k0 < w) (i k:Nat) :
    entry (setM m i0 k0 x) i k=if i=i0∧k=k0 then x else entry m i k:=by
  unfold entry setM
  by_cases ei:i=i0
  · subst ei
    have hl:i < m.length:=by omega
    have hr:=h2 i _ (List.getElem?_eq_getElem hl)
    rw[List.getD_eq_getElem?_getD (l:=m.set _ _),List.getElem?_set_self (by omega),Option.getD_some]
    by_cases ek:k=k0
    · subst ek
      rw[if_pos ⟨rfl,rfl⟩,List.getD_eq_getElem?_getD,List.getElem?_set_self,Option.getD_some]
      rw[List.getD_eq_getElem?_getD,List.getElem?_eq_getElem hl,Option.getD_some,hr]
      exact hk0
    · rw[if_neg (fun h=>ek h.2),List.getD_eq_getElem?_getD,List.getElem?_set_ne (Ne.symm ek),← List.getD_eq_getElem?_getD]
  · rw[if_neg (fun h=>ei h.1),List.getD_eq_getElem?_getD (l:=m.set _ _),List.getElem?_set_ne (Ne.symm ei),← List.getD_eq_getElem?_getD]
theorem fills_entry (F : Nat→Nat→(P4 × Int) × Int) (h w:Nat):∀ n,n≤h*w→∀ i k,i < h→k < w→entry (fills F h w n) i k=if i*w+k < n then (F i k).1 else (P4.zero,0)
  | 0,_,i,k,hi,hk=>by
    simp[fills,entry,zeros,List.getElem?_replicate,hi,hk]
  | n+1,hn,i,k,hi,hk=>by
    have hw:0 < w:=by omega
    obtain⟨s1,s2⟩:=fills_shape F h w n
    have g1:n / w < h:=Nat.div_lt_of_lt_mul (by rw[Nat.mul_comm];omega)
    have g2:n % w < w:=Nat.mod_lt _ hw
    simp only[fills]
    rw[entry_set s1 s2 _ g1 g2,fills_entry F h w n (by omega) i k hi hk]
    have hdm:=Nat.div_add_mod n w
    by_cases e:i=n / w∧k=n % w
    · obtain⟨e1,e2⟩:=e
      rw[if_pos ⟨e1,e2⟩,if_pos (by rw[e1,e2,Nat.mul_comm,hdm];omega),e1,e2]
    · rw[if_neg e]
      have hne:i*w+k ≠ n:=by
        intro h'
        apply e
        rw[← h',Nat.mul_comm,Nat.mul_add_div hw,Nat.div_eq_of_lt hk,Nat.mul_add_mod,Nat.mod_eq_of_lt hk]
        simp
      by_cases hlt:i*w+k < n
      · rw[if_pos hlt,if_pos (by omega)]
      · rw[if_neg hlt,if_neg (by omega)]
theorem fills_eq {F : Nat→Nat→(P4 × Int) × Int} {h w:Nat} {b:List (List (P4 × Int))} (b1:b.length=h) (b2:∀ (i:Nat) r,b[i]?=some r→r.length=w) (he:∀ i k,i < h→k < w→(F i k).1=entry b i k):fills F h w (h*w)=b:=by
  obtain⟨s1,s2⟩:=fills_shape F h w (h*w)
  refine mat_ext s1 s2 b1 b2 fun i k hi hk=>?_
  rw[fills_entry F h w _ (Nat.le_refl _) i k hi hk,if_pos,he i k hi hk]
  have:(i+1)*w≤h*w:=Nat.mul_le_mul_right _ hi
  rw[Nat.succ_mul] at this
  omega
theorem firstErr_all : ∀ {l:List Int},(∀ e∈l,e=0)→firstErr l=0
  | [],_=>rfl
  | e::l,h=>by
    unfold firstErr
    rw[if_pos (h e (by simp))]
    exact firstErr_all fun e he=>h e (by simp[he])
theorem entry_get {m : List (List (P4 × Int))} {i k:Nat} (hi:i < m.length) (hk:k < m[i].length):entry m i k=m[i][k]:=by
  unfold entry
  simp[List.getD_eq_getElem?_getD,hi,hk]
def leastAt (m : List (List (P4 × Int))) (i k:Nat):(P4 × Int) × Int:=LeastF (entry m i k).1 (entry m i k).2
theorem leastAt_eq {m : List (List (P4 × Int))} (h0:checkMR m=0) {i k:Nat} (hi:i < m.length) (hk:k < (m.headD []).length):leastAt m i k=(formR (entry m i k).1 (entry m i k).2,0):=by
  obtain⟨_,_,z3,z4⟩:=checkMR_zero h0
  have hk':k < m[i].length:=by
    have:=z3 m[i] (List.getElem_mem hi)
    omega
  unfold leastAt
  apply LeastF_eq
  rw[entry_get hi hk',checkF_checkR]
  exact z4 m[i] (List.getElem_mem hi) _ (List.getElem_mem hk')
theorem errs_zero {F : Nat→Nat→(P4 × Int) × Int} {h w:Nat} (he:∀ i k,i < h→k < w→(F i k).2=0):firstErr (errsE F h w)=0:=by
  apply firstErr_all
  intro e hm
  unfold errsE at hm
  obtain⟨n,hn,rfl⟩:=List.mem_map.1 hm
  obtain⟨g1,g2,_⟩:=placesN_uniform (List.mem_range.1 hn)
  exact he _ _ g1 g2
theorem least_fills {m : List (List (P4 × Int))} (h0:checkMR m=0):firstErr (errsE (leastAt m) m.length (m.headD []).length)=0∧fills (leastAt m) m.length (m.headD []).length (m.length*(m.headD []).length)=m.map formsR:=by
  obtain⟨_,_,z3,z4⟩:=checkMR_zero h0
  refine⟨errs_zero fun i k hi hk=>by rw[leastAt_eq h0 hi hk],fills_eq (by simp) (fun i r hr=>?_) (fun i k hi hk=>?_)⟩
  · rw[List.getElem?_map] at hr
    obtain⟨r',hr',rfl⟩:=Option.map_eq_some_iff.1 hr
    have:=z3 r' (List.mem_of_getElem? hr')
    rw[formsR,List.length_map]
    omega
  · rw[leastAt_eq h0 hi hk]
    have hk':k < m[i].length:=by
      have:=z3 m[i] (List.getElem_mem hi)
      omega
    rw[entry_get hi hk']
    unfold entry formsR
    simp[List.getD_eq_getElem?_getD,hi,hk']
theorem eqL_refl : ∀ l:List (P4 × Int),eqL l l=true
  | []=>rfl
  | x::l=>by
    simp only[eqL,Bool.and_eq_true]
    exact⟨eqN_iff.2 rfl,eqL_refl l⟩
theorem eqM_refl : ∀ m:List (List (P4 × Int)),eqM m m=true
  | []=>rfl
  | x::l=>by
    simp only[eqM,Bool.and_eq_true]
    exact⟨eqL_refl x,eqM_refl l⟩
end Go.Proofs.YtgbhgfdgifkdhaaGreat

namespace Go.Proofs.YtgbhgfdgifkdhaaGreat
open Go.Proofs.YtgbhgfdgifkdhaaGreat.X Go.Proofs.YtgbhgfdgifkdhaaGreat.X.PH
set_option maxRecDepth 100000
theorem RowsO.of_sub {M M' : PH} {bs:List Nat} {m:List (List (P4 × Int))} (h:RowsO M bs m) (hs:∀ b∈bs,M' b=M b):RowsO M' bs m:=
  ⟨h.len,h.nodup,fun i b r hc hr=>(hs b (List.mem_of_getElem? hc)).trans (h.cells i b r hc hr)⟩
def MadeE (F : Nat→Nat→(P4 × Int) × Int) (h w:Nat) (r:Value) (M':PH):Prop:=
  (firstErr (errsE F h w) ≠ 0∧r=.tuple #[.slice none 0 0,.int .i64 (firstErr (errsE F h w))]) ∨
  (firstErr (errsE F h w)=0∧∃ u,r=.tuple #[u,.int .i64 0]∧OwnM M' u h w (fills F h w (h*w)))
theorem c81 (F : Nat→Nat→(P4 × Int) × Int) (h w:Nat) (hh:h < 1000000) (hw:w < 1000000) (H:PH) (fn:Fn) (first cp:Array Value)
    (hf:∀ i k,i < h→k < w→Does Tryz.prog H (.func fn first cp) [place i k] fun r _=>r=ne (F i k)) :
    Cl Tryz.prog 113 [.int .i64 h,.int .i64 w,.func fn first cp] H emp fun r _ M'=>MadeE F h w r M':=by
  refine Cl_of (pol:=polL) Γok Tryz.func113 (by kernel_rfl) rfl ?_
  conv=>whnf
  refine (c73 h w hh hw H).mono fun r H1 M1 hs1 hq=>?_
  obtain⟨hd,hl,hwd,bs,b0,hrows,hb0,rfl,hM0⟩:=hq
  conv=>whnf
  have hH0:H1 b0=none:=(hd b0).resolve_right (by rw[hM0];simp)
  have hM:M1=un (fun n=>if n=b0 then M1 n else none) (del M1 b0):=by
    funext n
    unfold un del
    by_cases e:n=b0
    · subst e;simp[hM0]
    · simp[e]
  have hdR:Dis (fun n=>if n=b0 then M1 n else none) (del M1 b0):=fun n=>by
    by_cases e:n=b0
    · subst e;exact .inr (del_same _ _)
    · exact .inl (by simp[e])
  have hrows':RowsO (del M1 b0) bs (List.replicate h (zeros w)):=hrows.of_sub fun b hb=>del_ne _ fun e=>by subst e;exact hb0 hb
  have hbl:bs.length=h:=by have:=hrows.len;simpa using this
  rw[hM]
  refine ((c150 F h w hh hw _ _ _ _ _ _ _ bs hrows' ⟨_,_,rfl,.inr ⟨b0,0,_,_,_,rfl,show un H1 _ b0=_ by unfold un;rw[hH0];simp only[if_true];exact hM0,?_⟩⟩ (fun i k hi hk=>(hf i k hi hk).up fun n o hn=>by simp[un,hs1 n o hn])).lend hdR).mono fun r H2 O2 hs2 hq=>?_
  · simp only[List.length_map,hbl]
    exact List.take_of_length_le (by simp[hbl])
  obtain⟨H3,M3,hq,hsub,_,rfl,_⟩:=hq
  rcases hq with⟨he,rfl⟩ | ⟨he,rfl,hr⟩
  · conv=>whnf
    exact .inl ⟨he,rfl⟩
  · conv=>whnf
    obtain⟨s1,s2⟩:=fills_shape F h w (h*w)
    refine .inr ⟨he,_,rfl,s1,s2,bs,b0,hr.of_sub fun b hb=>?_,hb0,rfl,?_⟩
    · have:b ≠ b0:=fun e=>by subst e;exact hb0 hb
      simp[un,this]
    · simp[un,hM0]
theorem c88 (m : List (List (P4 × Int))) (i k:Nat) (hi:i < m.length) (hk:k < m[i].length) (H:PH) (v:Value) (b:Nat) (t:TypeId) (hv:MatH H v m) (hb:H b=some (.cells ⟨[.func (.func 95) #[v] #[]]⟩ t (0,0))) :
    Cl Tryz.prog 149 [place i k,.pointer (some ⟨b,0,none⟩)] H emp fun r _ _=>r=ne (LeastF m[i][k].1 m[i][k].2):=by
  refine Cl_of (pol:=polL) Γok Tryz.func149 (by kernel_rfl) rfl ?_
  conv=>whnf
  repeat (intro _;conv=>whnf)
  refine⟨_,Rd.whole hb,?_⟩
  conv=>whnf
  refine (c84 m i k hi hk _ _ hv).val fun H1 hs1=>?_
  conv=>whnf
  refine (c83 m[i][k].1 m[i][k].2 _).val fun H2 hs2=>?_
  conv=>whnf
  rfl
def LeastM (m : List (List (P4 × Int))) (r:Value) (M':PH):Prop:=
  (checkMR m ≠ 0∧r=.tuple #[.slice none 0 0,.int .i64 (checkMR m)])∨(checkMR m=0∧∃ u,r=.tuple #[u,.int .i64 0]∧OwnM M' u m.length (m.headD []).length (m.map formsR))
theorem c28 (m : List (List (P4 × Int))) (hlen:m.length < 1000000) (H:PH) (v:Value) (hv:MatH H v m):Cl Tryz.prog 65 [v] H emp fun r _ M'=>LeastM m r M':=by
  obtain⟨base,cap,rfl⟩:∃ base cap,v=.slice base m.length cap:=by
    obtain⟨_,_,⟨b,c,h,_⟩,_⟩:=hv
    exact⟨b,c,h⟩
  refine Cl_of (pol:=fun | 5=>.own | _=>.loc) Γok Tryz.func65 (by kernel_rfl) rfl ?_
  conv=>whnf
  refine (c29 m _ _ hlen hv).val fun H1 hs1=>?_
  rw[checkMF_checkMR]
  conv=>whnf
  refine if_intro (fun he=>?_) (fun he=>?_)
  · conv=>whnf
    exact .inl ⟨by simpa using he,rfl⟩
  · have h0:checkMR m=0:=by simpa using he
    obtain⟨z1,z2,z3,z4⟩:=checkMR_zero h0
    conv=>whnf
    intro b hb hO
    conv=>whnf
    refine⟨_,_,ins_same _ _ _,by simp,?_⟩
    conv=>whnf
    obtain⟨rb,roff,rbase,rcap,rfl,hrd0,_⟩:=(hv.up hs1).rd (O:=emp) z1
    conv=>whnf
    refine dec_intro (by omega) ?_
    conv=>whnf
    refine⟨_,hrd0.anyO,?_⟩
    conv=>whnf
    have hd:m.headD []=m[0]'z1:=by
      cases m with
      | nil=>simp at z1
      | cons r m=>rfl
    have hw:=z3 _ (List.getElem_mem z1)
    have hs2:=sub_ins H1 (.cells ⟨[.func (.func 95) #[.slice (some ⟨rb,roff,none⟩) m.length cap] #[]]⟩ 121 (0,0)) hb
    have hc:=c81 (leastAt m) m.length (m.headD []).length hlen (by omega) (ins H1 b (.cells ⟨[.func (.func 95) #[.slice (some ⟨rb,roff,none⟩) m.length cap] #[]]⟩ 121 (0,0))) (.func 149) #[] #[.pointer (some ⟨b,0,none⟩)] (fun i k hi hk=>by
      have hk':k < m[i].length:=by
        have:=z3 m[i] (List.getElem_mem hi)
        omega
      unfold leastAt
      rw[entry_get hi hk']
      exact⟨149,[],[_],rfl,fun H' hs'=>c88 m i k hi hk' H' _ b _ (((hv.up hs1).up hs2).up hs') (hs' _ _ (ins_same _ _ _))⟩)
    rw[hd] at hc
    refine Cl.pub (ins_same _ _ _) (fun _=>?_) hc.ent
    rw[show del (ins (ins emp b _) b _) b=emp by funext n;unfold del ins emp;by_cases e:n=b<;>simp[e]]
    refine hc.mono fun r H2 M2 _ hr=>?_
    obtain⟨l1,l2⟩:=least_fills h0
    rw[hd] at l1 l2
    rcases hr with⟨he',_⟩ | ⟨_,u,rfl,hu⟩
    · exact absurd l1 he'
    · conv=>whnf
      rw[l2] at hu
      refine .inr ⟨h0,u,rfl,?_⟩
      rw[hd]
      exact hu
end Go.Proofs.YtgbhgfdgifkdhaaGreat

namespace Go.Proofs.YtgbhgfdgifkdhaaGreat
open Go.Proofs.YtgbhgfdgifkdhaaGreat.X Go.Proofs.YtgbhgfdgifkdhaaGreat.X.PH
set_option maxRecDepth 100000
theorem c24nil (H M : PH):Cl Tryz.prog 46 [.slice none 0 0] H M fun _ _ _=>True:=by
  refine Cl_of (pol:=polL) Γok Tryz.func46 (by kernel_rfl) rfl ?_
  conv=>whnf
  refine W_loop (pol:=polL) Γok Unit (fun _=>True) (fun _=>0) (fun _=>[(6,.v (.int .i64 0))]) (fun _=>[]) (fun _=>H) (fun _=>M) ⟨(),trivial,rfl,rfl,?_⟩ ?_
  · conv=>whnf
    repeat (refine⟨rfl,?_⟩;conv=>whnf)
    exact trivial
  · rintro ⟨⟩ _
    conv=>whnf
    unfold clearK
    exact⟨none,0,0,rfl,rfl,by simp[Value.oneCell'],fun _=>trivial,fun a h=>by cases h⟩
theorem c24 (h w : Nat) (hh:h < 1000000) (hw:w < 1000000) (m:List (List (P4 × Int))) (H M:PH) (v:Value) (hm:OwnM M v h w m):Cl Tryz.prog 46 [v] H M fun _ _ _=>True:=by
  obtain⟨l1,l2,bs,b0,hr,hb0,rfl,hM0⟩:=hm
  have hbl:bs.length=h:=hr.len.trans l1
  refine Cl_of (pol:=polL) Γok Tryz.func46 (by kernel_rfl) rfl ?_
  conv=>whnf
  refine W_loop (pol:=polL) Γok (Nat × PH) (fun i=>i.1≤h∧i.2 b0=some (.cells ⟨bs.map fun b=>rowV b w⟩ 31 (0,0))∧∃ m,m.length=h∧(∀ (i:Nat) r,m[i]?=some r→r.length=w)∧RowsO i.2 bs m) (fun i=>h - i.1) (fun i=>[(6,.v (.int .i64 i.1))]) (fun _=>[]) (fun _=>H) (fun i=>i.2) ⟨(0,M),⟨by simp,hM0,m,l1,l2,hr⟩,rfl,rfl,?_⟩ ?_
  · conv=>whnf
    repeat (refine⟨rfl,?_⟩;conv=>whnf)
    exact trivial
  · rintro ⟨i,O⟩ ⟨h1,h2,m,h3,h4,h5⟩
    dsimp only at h1 h2 h5
    conv=>whnf
    refine if_intro (fun hg=>?_) (fun hg=>?_)
    · have hi:i < h:=by simpa using hg
      conv=>whnf
      refine dec_intro (by simpa using hi) ?_
      conv=>whnf
      have hib:i < bs.length:=by omega
      refine⟨[rowV bs[i] w],⟨rfl,rfl,_,_,_,.inr h2,?_⟩,?_⟩
      · simp[List.drop_eq_getElem_cons,hib]
      conv=>whnf
      have him:i < m.length:=by omega
      have hOb:=h5.cells i bs[i] _ (List.getElem?_eq_getElem hib) (List.getElem?_eq_getElem him)
      have hrl:=h4 _ _ (List.getElem?_eq_getElem him)
      have hne:b0 ≠ bs[i]:=fun e=>hb0 (by rw[e];exact List.getElem_mem hib)
      have step:∀ m',m'.length=h→(∀ (i:Nat) r,m'[i]?=some r→r.length=w)→∀ O',RowsO O' bs m'→O' b0=some (.cells ⟨bs.map fun b=>rowV b w⟩ 31 (0,0))→(i+1≤h∧O' b0=some (.cells ⟨bs.map fun b=>rowV b w⟩ 31 (0,0))∧∃ m,m.length=h∧(∀ (i:Nat) r,m[i]?=some r→r.length=w)∧RowsO O' bs m):=fun m' a b O' c d=>⟨hi,d,m',a,b,c⟩
      unfold clearK
      refine⟨some ⟨bs[i],0,none⟩,w,w,rfl,rfl,fun v hv=>cellsOf_one (P4.zero,0) v hv,fun _=>?_,fun a ha hlt=>⟨bs[i],0,cellsN m[i],_,by cases ha;rfl,hOb,by rw[cellsN_length,hrl];omega,?_⟩⟩
      · conv=>whnf
        refine⟨(i+1,O),step m h3 h4 O h5 h2,by dsimp only;omega,?_⟩
        conv=>whnf
        refine⟨rfl,rfl,?_⟩
        conv=>whnf
        repeat (refine⟨rfl,?_⟩;conv=>whnf)
        refine⟨by show En.v (.int .i64 (IntKind.i64.wrap (i+1)))=_;rw[wrap_id (by omega) (by omega)];rfl,?_⟩
        conv=>whnf
        repeat (refine⟨rfl,?_⟩;conv=>whnf)
        exact trivial
      · conv=>whnf
        refine⟨(i+1,ins O bs[i] (.cells ⟨cellsN (zeros w)⟩ 33 (0,0))),step (m.set i (zeros w)) (by simpa using h3) (fun j r hr=>?_) _ ?_ ((ins_ne _ _ hne).trans h2),by dsimp only;omega,?_⟩
        · by_cases e:i=j
          · subst e
            rw[List.getElem?_set_self him] at hr
            cases hr
            simp[zeros]
          · rw[List.getElem?_set_ne e] at hr
            exact h4 j r hr
        · refine⟨by simp[hbl,h3],h5.nodup,fun j b r hc hr=>?_⟩
          by_cases e:i=j
          · subst e
            rw[List.getElem?_set_self him] at hr
            cases hr
            rw[List.getElem?_eq_getElem hib] at hc
            cases hc
            exact ins_same _ _ _
          · rw[List.getElem?_set_ne e] at hr
            have:b ≠ bs[i]:=fun e'=>by
              subst e'
              apply e
              have h1':=(List.getElem?_eq_some_iff.1 hc)
              exact (List.getElem_inj h5.nodup).1 h1'.2.symm
            exact (ins_ne _ _ this).trans (h5.cells j b r hc hr)
        · conv=>whnf
          refine⟨rfl,?_,?_⟩
          · show ins O bs[i] _=ins O bs[i] _
            congr 3
            rw[List.drop_of_length_le (by rw[cellsN_length,hrl];omega)]
            simp only[cellsN,zeros,List.map_replicate,List.take_zero,List.nil_append,List.append_nil]
            rfl
          conv=>whnf
          repeat (refine⟨rfl,?_⟩;conv=>whnf)
          refine⟨by show En.v (.int .i64 (IntKind.i64.wrap (i+1)))=_;rw[wrap_id (by omega) (by omega)];rfl,?_⟩
          conv=>whnf
          repeat (refine⟨rfl,?_⟩;conv=>whnf)
          exact trivial
    · conv=>whnf
      unfold clearK
      refine⟨some ⟨b0,0,none⟩,h,h,rfl,rfl,by simp[Value.oneCell'],fun _=>?_,fun a ha hlt=>⟨b0,0,_,_,by cases ha;rfl,h2,by simp[hbl],?_⟩⟩
      · exact trivial
      · exact trivial
theorem OwnM.up {M M' : PH} {v:Value} {h w:Nat} {m:List (List (P4 × Int))} (hm:OwnM M v h w m) (hs:Sub M M'):OwnM M' v h w m:=by
  obtain⟨h1,h2,bs,b0,hr,h3,h4,h5⟩:=hm
  exact⟨h1,h2,bs,b0,⟨hr.len,hr.nodup,fun i b r hc hr'=>hs _ _ (hr.cells i b r hc hr')⟩,h3,h4,hs _ _ h5⟩
theorem un_right {H M : PH} (hd:Dis H M) {n:Nat} {o:Obj} (h:M n=some o):un H M n=some o:=by
  have:H n=none:=(hd n).resolve_right (by rw[h];simp)
  unfold un
  rw[this]
  exact h
theorem OwnM.share {H M : PH} (hd:Dis H M) {v:Value} {h w:Nat} {m:List (List (P4 × Int))} (hm:OwnM M v h w m):MatH (un H M) v m:=by
  obtain⟨h1,h2,bs,b0,hr,h3,rfl,h5⟩:=hm
  refine⟨bs.map fun b=>rowV b w,by simp[hr.len],⟨_,_,by rw[h1],.inr ⟨b0,0,_,_,_,rfl,un_right hd h5,?_⟩⟩,fun i r u hr' hu=>?_⟩
  · rw[List.drop_zero]
    exact List.take_length
  · rw[List.getElem?_map] at hu
    obtain⟨b,hb,rfl⟩:=Option.map_eq_some_iff.1 hu
    have hw:=h2 i r hr'
    refine⟨some ⟨b,0,none⟩,w,by rw[hw];rfl,.inr ⟨b,0,_,_,_,rfl,un_right hd (hr.cells i b r hb hr'),?_⟩⟩
    rw[List.drop_zero]
    exact List.take_length
theorem great_le {m : List (List (P4 × Int))} {n:Int} (h:greatF m n=false):(m.length:Int)≤n∧∀ r∈m,(r.length:Int)≤n:=by
  unfold greatF at h
  rw[Bool.or_eq_false_iff] at h
  obtain⟨h1,h2⟩:=h
  refine⟨by simpa using h1,fun r hr=>?_⟩
  rw[List.any_eq_false] at h2
  have:=h2 r hr
  simpa using this
theorem nilM (H : PH):MatH H (.slice none 0 0) []:=⟨[],rfl,⟨none,0,rfl,.inl ⟨rfl,rfl⟩⟩,by simp⟩
end Go.Proofs.YtgbhgfdgifkdhaaGreat

namespace Go.Proofs.YtgbhgfdgifkdhaaGreat
open Go.Proofs.YtgbhgfdgifkdhaaGreat.X Go.Proofs.YtgbhgfdgifkdhaaGreat.X.PH
set_option maxRecDepth 100000
theorem c4 (aw : ∀ H,Cl Tryz.prog 15 [] H emp fun r _ _=>r=.bool true) (m:List (List (P4 × Int))) (hlen:m.length < 9223372036854775808) (H:PH) (v:Value) (hv:MatH H v m) :
    Cl Tryz.prog 14 [v] H emp fun r _ _=>r=.bool true:=by
  refine Cl_of (pol:=polL) Γok Tryz.func14 (by kernel_rfl) rfl ?_
  conv=>whnf
  refine (c26 m 66 _ _ hv hlen).val fun H1 hs1=>?_
  conv=>whnf
  refine if_intro (fun hg=>?_) (fun hg=>?_)
  · conv=>whnf
    refine (aw _).val fun H2 hs2=>?_
    conv=>whnf
  · conv=>whnf
    obtain⟨g1,g2⟩:=great_le hg
    have hv1:=hv.up hs1
    refine (c15' m _ _ hv1 (by omega) (fun r hr=>by have:=g2 r hr;omega)).use fun own H2 hs2 ho=>?_
    obtain⟨_,ho⟩:=ho
    have hv2:=hv1.up hs2
    conv=>whnf
    refine (c27 m _ _ hv2).use fun rw_ H3 hs3 hw=>?_
    obtain⟨_,hw⟩:=hw
    have hv3:=hv2.up hs3
    have ho3:=ho.up hs3
    have hr3:∀ r∈m,r.length < 9223372036854775808:=fun r hr=>by have:=g2 r hr;omega
    rcases hw with⟨he,rfl⟩ | ⟨he,want,rfl,hwant⟩
    · conv=>whnf
      refine (c28 m (by omega) _ _ ho3).mono fun ra H4 M4 hs4 ha=>?_
      rcases ha with⟨_,rfl⟩ | ⟨he',_⟩
      rotate_left
      · exact absurd he' he
      conv=>whnf
      refine (c29 m _ _ (by omega) (ho3.up hs4)).val fun H5 hs5=>?_
      rw[checkMF_checkMR]
      conv=>whnf
      refine (c30 m _ _ ((hv3.up hs4).up hs5)).val fun H6 hs6=>?_
      conv=>whnf
      rw[bne_self_eq_false]
      conv=>whnf
      rw[bne_self_eq_false]
      conv=>whnf
      refine (c23 [] [] _ _ _ (nilM _) (nilM _) (by simp) (by simp)).val fun H7 hs7=>?_
      rw[eqM_refl]
      conv=>whnf
      refine (c24nil _ _).mono fun _ H8 M8 hs8 _=>?_
      conv=>whnf
      have hsub:=hs4.trans (hs5.trans (hs6.trans (hs7.trans hs8)))
      refine (c23 m m _ _ _ (ho3.up hsub) (hv3.up hsub) (by omega) hr3).val fun H9 hs9=>?_
      rw[eqM_refl]
      conv=>whnf
      refine (aw _).val fun H10 hs10=>?_
      conv=>whnf
    · conv=>whnf
      refine (c28 m (by omega) _ _ ho3).mono fun ra H4 M4 hs4 ha=>?_
      rcases ha with⟨he',_⟩ | ⟨_,u,rfl,hu⟩
      · exact absurd he he'
      conv=>whnf
      refine (c29 m _ _ (by omega) (ho3.up hs4)).val fun H5 hs5=>?_
      rw[checkMF_checkMR]
      conv=>whnf
      refine (c30 m _ _ ((hv3.up hs4).up hs5)).val fun H6 hs6=>?_
      conv=>whnf
      rw[bne_self_eq_false]
      conv=>whnf
      have hent:=(c23 [] [] emp _ _ (nilM _) (nilM _) (by simp) (by simp)).ent
      refine (Cl.share' (Q:=fun r=>r=.bool (eqM (m.map formsR) (m.map formsR))) hent fun hd=>c23 (m.map formsR) (m.map formsR) _ _ _ (hu.share hd) ((((hwant.up hs4).up hs5).up hs6).up fun n o hn=>by simp[un,hn]) (by simp;omega) (fun r hr=>?_)).mono fun r H7 M7 hs7 hq=>?_
      · obtain⟨r',hr',rfl⟩:=List.mem_map.1 hr
        have:=g2 r' hr'
        simp[formsR]
        omega
      obtain⟨hsubM,rfl⟩:=hq
      rw[eqM_refl]
      conv=>whnf
      obtain⟨z1,z2,z3,_⟩:=checkMR_zero he
      have hw:(m.headD []).length < 1000000:=by
        have:=z3 _ (List.getElem_mem z1)
        omega
      refine (c24 _ _ (by omega) hw _ _ _ _ (hu.up hsubM)).mono fun _ H8 M8 hs8 _=>?_
      conv=>whnf
      have hsub:=hs4.trans (hs5.trans (hs6.trans (hs7.trans hs8)))
      refine (c23 m m _ _ _ (ho3.up hsub) (hv3.up hsub) (by omega) hr3).val fun H9 hs9=>?_
      rw[eqM_refl]
      conv=>whnf
      refine (aw _).val fun H10 hs10=>?_
      conv=>whnf
end Go.Proofs.YtgbhgfdgifkdhaaGreat

namespace Go.Proofs.YtgbhgfdgifkdhaaGreat
open Go.Proofs.YtgbhgfdgifkdhaaGreat.X Go.Proofs.YtgbhgfdgifkdhaaGreat.X.PH Go.ChangeShapes Go.WideShapes Go.ChangeAt Go.RowKit Go.Deep
set_option maxRecDepth 100000
theorem own : ownKnob Tryz.prog.godebug=none:=by kernel_rfl
def heapP (w : World):PH:=fun n=>w.heap[n]?
instance : Inhabited P4 := ⟨P4.zero⟩
section
variable {H : Type} {enc : TypeId × Value → H} {W : World}
end
end Go.Proofs.YtgbhgfdgifkdhaaGreat

namespace Go.Proofs.YtgbhgfdgifkdhaaGreat
open Go.Proofs.YtgbhgfdgifkdhaaGreat.X Go.Proofs.YtgbhgfdgifkdhaaGreat.X.PH
set_option maxRecDepth 100000
theorem c161 (l : List (P4 × Int)) (H:PH) (v:Value) (hv:NumH H v l) (hlen:l.length < 9223372036854775808):Cl Tryz.prog 185 [v] H emp fun r _ _=>r=.int .i64 (errsF l):=by
  obtain⟨base,cap,rfl,_⟩:=id hv
  refine Cl_of (pol:=polL) Γok Tryz.func185 (by kernel_rfl) rfl ?_
  conv=>whnf
  refine W_loop (pol:=polL) Γok (Nat × PH) (fun i=>i.1≤l.length∧Sub H i.2∧errsF l=errsF (l.drop i.1)) (fun i=>l.length - i.1) (fun i=>[(8,.v (.int .i64 i.1))]) (fun _=>[]) (fun i=>i.2) (fun _=>emp) ⟨(0,H),⟨by simp,Sub.refl _,by simp⟩,rfl,rfl,?_⟩ ?_
  · conv=>whnf
    repeat (refine⟨rfl,?_⟩;conv=>whnf)
    exact trivial
  · rintro ⟨i,H'⟩ ⟨h1,h2,h3⟩
    dsimp only at h1 h2 h3
    conv=>whnf
    refine if_intro (fun h=>?_) (fun h=>?_)
    · have hi:i < l.length:=by simpa using h
      obtain⟨_,b,off,rfl,hrd⟩:=(hv.up h2).rd (O:=emp) hi
      conv=>whnf
      refine dec_intro (by simpa using hi) ?_
      conv=>whnf
      refine⟨_,hrd,?_⟩
      conv=>whnf
      intro bx
      conv=>whnf
      refine (c93 l[i].1 l[i].2 _).val fun H2 hs=>?_
      conv=>whnf
      have hst:=firstErr_step (fun x:P4 × Int=>checkF x.1 x.2) hi
      refine if_intro (fun he=>?_) (fun he=>?_)
      · conv=>whnf
        rw[h3]
        unfold errsF
        rw[hst,if_neg (by simpa using he)]
      · conv=>whnf
        refine⟨(i+1,H2),⟨hi,h2.trans hs,?_⟩,by dsimp only;omega,?_⟩
        · rw[h3]
          unfold errsF
          rw[hst,if_pos (by simpa using he)]
        · conv=>whnf
          refine⟨rfl,rfl,?_⟩
          conv=>whnf
          repeat (refine⟨rfl,?_⟩;conv=>whnf)
          refine⟨by show En.v (.int .i64 (IntKind.i64.wrap (i+1)))=_;rw[wrap_id (by omega) (by omega)];rfl,?_⟩
          conv=>whnf
          repeat (refine⟨rfl,?_⟩;conv=>whnf)
          exact trivial
    · have hi:l.length≤i:=by simpa using h
      conv=>whnf
      rw[h3,List.drop_of_length_le hi]
      rfl
def raiseP : Nat→P4→P4
  | 0,p=>p
  | n+1,p=>(raiseP n p).twice
def P4.workF (p : P4) (k:Int) (g:FuncId):Value:=.agg ⟨[.int .i64 p.a,.int .i64 p.b,.int .i64 p.c,.int .i64 p.d,.int .i64 k,.func (.func g) #[] #[]]⟩
theorem c157' (p : P4) (k:Int) (f:FuncId) (H:PH):Cl Tryz.prog 214 [p.workF k f] H emp fun v _ _=>v=p.v:=by
  refine Cl_of (pol:=polL) Γok Tryz.func214 (by kernel_rfl) rfl ?_
  conv=>whnf
  repeat (intro _;conv=>whnf)
  rfl
def raisedF (p : P4) (j k:Int):P4:=raiseP (wr (k - j)).toNat p
theorem c185 (p : P4) (j k:Int) (f:FuncId) (H:PH):Cl Tryz.prog 246 [p.workF j f,.int .i64 k] H emp fun v _ _=>v=(raisedF p j k).v:=by
  refine Cl_of (pol:=polL) Γok Tryz.func246 (by kernel_rfl) rfl ?_
  conv=>whnf
  repeat (intro _;conv=>whnf)
  refine (c157' p j f _).val fun H1 hs1=>?_
  conv=>whnf
  intro b5
  conv=>whnf
  refine W_loop (pol:=polL) Γok (Nat × PH) (fun i=>(i.1:Int)≤max 0 (wr (k - j))) (fun i=>(wr (k - j)).toNat - i.1) (fun i=>[(13,.v (.int .i64 i.1))]) (fun i=>[(2,(raiseP i.1 p).list.map fun x=>.int .i64 x)]) (fun i=>i.2) (fun _=>emp) ⟨(0,H1),by dsimp only;omega,rfl,rfl,?_⟩ ?_
  · conv=>whnf
    repeat (refine⟨rfl,?_⟩;conv=>whnf)
    exact trivial
  · rintro ⟨i,H'⟩ h1
    dsimp only at h1
    conv=>whnf
    refine if_intro (fun h=>?_) (fun h=>?_)
    · have hi:(i:Int) < wr (k - j):=by simpa[wr] using h
      conv=>whnf
      refine (c181 (raiseP i p) _).val fun H2 hs2=>?_
      conv=>whnf
      refine⟨(i+1,H2),by dsimp only;omega,by dsimp only;omega,?_⟩
      conv=>whnf
      refine⟨rfl,rfl,?_⟩
      conv=>whnf
      have hb:wr (k - j) < 9223372036854775808:=by unfold wr;rw[IntKind.wrap_i64];omega
      repeat (refine⟨rfl,?_⟩;conv=>whnf)
      refine⟨by show En.v (.int .i64 (IntKind.i64.wrap (i+1)))=_;rw[wrap_id (by omega) (by omega)];rfl,?_⟩
      conv=>whnf
      repeat (refine⟨rfl,?_⟩;conv=>whnf)
      exact trivial
    · have hi:i=(wr (k - j)).toNat:=by
        have:¬ (i:Int) < wr (k - j):=by simpa[wr] using h
        omega
      conv=>whnf
      unfold raisedF
      rw[← hi]
      rfl
def opP (f : Int→Int→Int) (p q:P4):P4:=⟨f p.a q.a,f p.b q.b,f p.c q.c,f p.d q.d⟩
def maxI (x y : Int):Int:=if y > x then y else x
def addG (f : Int→Int→Int) (x y:P4 × Int):(P4 × Int) × Int:=
  leastF (opP f (raisedF x.1 x.2 (maxI x.2 y.2)) (raisedF y.1 y.2 (maxI x.2 y.2))) (maxI x.2 y.2)
theorem c165 (f : Int→Int→Int) (g:FuncId) (hg:∀ a b H,Cl Tryz.prog g [.int .i64 a,.int .i64 b] H emp fun r _ _=>r=.int .i64 (f a b)) (x y:P4 × Int) (h1:-9223372036854775808≤maxI x.2 y.2) (h2:maxI x.2 y.2 < 9223372036854775808) (H:PH) :
    Cl Tryz.prog 213 [x.1.workF x.2 g,nv y] H emp fun v _ _=>v=ne (addG f x y):=by
  refine Cl_of (pol:=polL) Γok Tryz.func213 (by kernel_rfl) rfl ?_
  conv=>whnf
  repeat (intro _;conv=>whnf)
  refine W_draw (pol:=polL) Γok mixes [(0,.pendO),(1,.pendO),(3,.pend),(5,.pend),(2,.lock),(4,.lock),(6,.lock),(7,.late),(8,.late),(9,.lock),(10,.lock)] 45 (by kernel_rfl) rfl ?_
  conv=>whnf
  refine (c185 x.1 x.2 _ g _).val fun H1 hs1=>?_
  conv=>whnf
  refine (c151 y.1 y.2 _).val fun H2 hs2=>?_
  conv=>whnf
  refine (c185 y.1 y.2 _ 240 _).val fun H3 hs3=>?_
  conv=>whnf
  intro b7
  conv=>whnf
  intro b8
  conv=>whnf
  refine W_rounds (pol:=polL) Γok 5 ?_
  conv=>whnf
  refine W_draw (pol:=polL) Γok mixes [(0,.pend),(1,.pendO),(2,.pendO),(3,.pendO),(4,.pendO),(5,.pendO),(6,.pendO),(7,.pendO),(8,.pendO),(9,.lock),(10,.pendO),(11,.lock)] 45 (by kernel_rfl) rfl ?_
  conv=>whnf
  refine (hg _ _ _).val fun H4 hs4=>?_
  conv=>whnf
  refine W_draw (pol:=polL) Γok mixes [(0,.pend),(1,.pendO),(2,.pendO),(3,.pendO),(4,.pendO),(5,.pendO),(6,.pendO),(7,.pendO),(8,.pendO),(9,.lock),(10,.pendO),(11,.lock)] 45 (by kernel_rfl) rfl ?_
  conv=>whnf
  refine (hg _ _ _).val fun H5 hs5=>?_
  conv=>whnf
  refine W_draw (pol:=polL) Γok mixes [(0,.pend),(1,.pendO),(2,.pendO),(3,.pendO),(4,.pendO),(5,.pendO),(6,.pendO),(7,.pendO),(8,.pendO),(9,.lock),(10,.pendO),(11,.lock)] 45 (by kernel_rfl) rfl ?_
  conv=>whnf
  refine (hg _ _ _).val fun H6 hs6=>?_
  conv=>whnf
  refine W_draw (pol:=polL) Γok mixes [(0,.pend),(1,.pendO),(2,.pendO),(3,.pendO),(4,.pendO),(5,.pendO),(6,.pendO),(7,.pendO),(8,.pendO),(9,.lock),(10,.pendO),(11,.lock)] 45 (by kernel_rfl) rfl ?_
  conv=>whnf
  refine (hg _ _ _).val fun H7 hs7=>?_
  conv=>whnf
  refine (c170 (opP f (raisedF x.1 x.2 (maxI x.2 y.2)) (raisedF y.1 y.2 (maxI x.2 y.2))) (maxI x.2 y.2) _).val fun H8 hs8=>?_
  conv=>whnf
  refine (c151 (opP f (raisedF x.1 x.2 (maxI x.2 y.2)) (raisedF y.1 y.2 (maxI x.2 y.2))) (maxI x.2 y.2) _).val fun H9 hs9=>?_
  conv=>whnf
  refine (c152 (opP f (raisedF x.1 x.2 (maxI x.2 y.2)) (raisedF y.1 y.2 (maxI x.2 y.2))) (maxI x.2 y.2) h1 h2 _).val fun H10 hs10=>?_
  conv=>whnf
  rfl
theorem c187 (a b : Int) (H:PH):Cl Tryz.prog 253 [.int .i64 a,.int .i64 b] H emp fun v _ _=>v=.int .i64 (wr (a - b)):=by
  refine Cl_of (pol:=polL) Γok Tryz.func253 (by kernel_rfl) rfl ?_
  conv=>whnf
  rfl
def checks2 (x y : P4 × Int):Int:=errsF [x,y]
theorem checks2_zero {x y : P4 × Int} (h:checks2 x y=0):checkF x.1 x.2=0∧checkF y.1 y.2=0:=by
  have:=firstErr_zero h
  exact⟨this _ (by simp),this _ (by simp)⟩
def AddF (x y : P4 × Int):(P4 × Int) × Int:=if checks2 x y=0 then addG (fun a b=>wr (a+b)) x y else ((P4.zero,0),checks2 x y)
def SubF (x y : P4 × Int):(P4 × Int) × Int:=if checks2 x y=0 then addG (fun a b=>wr (a - b)) x y else ((P4.zero,0),checks2 x y)
def NegF (x : P4 × Int):(P4 × Int) × Int:=SubF (P4.zero,0) x
theorem pair_num {H : PH} {b:Nat} {x y:P4 × Int} (hb:H b=some (.cells ⟨[.int .i64 x.1.a,.int .i64 x.1.b,.int .i64 x.1.c,.int .i64 x.1.d,.int .i64 x.2,.int .i64 y.1.a,.int .i64 y.1.b,.int .i64 y.1.c,.int .i64 y.1.d,.int .i64 y.2]⟩ 33 (0,0))) :
    NumH H (.slice (some ⟨b,0,none⟩) 2 2) [x,y]:=⟨_,_,rfl,.inr ⟨b,0,_,_,_,rfl,hb,rfl⟩⟩
theorem maxI_bounds {x y : P4 × Int} (h:checks2 x y=0):-9223372036854775808≤maxI x.2 y.2∧maxI x.2 y.2 < 9223372036854775808:=by
  obtain⟨h1,h2⟩:=checks2_zero h
  have:=checkF_range h1
  have:=checkF_range h2
  unfold maxI
  split<;>omega
theorem c110 (x y : P4 × Int) (H:PH):Cl Tryz.prog 132 [nv x,nv y] H emp fun v _ _=>v=ne (AddF x y):=by
  refine Cl_of (pol:=fun | 9=>.imm | _=>.loc) Γok Tryz.func132 (by kernel_rfl) rfl ?_
  conv=>whnf
  iterate 3 (intro _;conv=>whnf)
  intro b hb hO
  conv=>whnf
  refine (c161 [x,y] _ _ (pair_num (ins_same _ _ _)) (by simp)).val fun H1 hs1=>?_
  conv=>whnf
  unfold AddF
  refine if_intro (fun he=>?_) (fun he=>?_)
  · conv=>whnf
    rw[if_neg (show ¬ checks2 x y=0 by simpa[checks2] using he)]
    rfl
  · have h0:checks2 x y=0:=by simpa[checks2] using he
    obtain⟨k1,k2⟩:=maxI_bounds h0
    rw[if_pos h0]
    conv=>whnf
    refine W_draw (pol:=polL) Γok mixes [(0,.pendO),(2,.pend),(1,.lock),(3,.lock),(4,.pendO),(5,.pendO),(6,.lock),(7,.pendO)] 21 (by kernel_rfl) rfl ?_
    conv=>whnf
    refine (c151 x.1 x.2 _).val fun H2 hs2=>?_
    conv=>whnf
    refine (c165 (fun a b=>wr (a+b)) 240 c178 x y k1 k2 _).val fun H3 hs3=>?_
    conv=>whnf
    rfl
theorem c176 (x y : P4 × Int) (H:PH):Cl Tryz.prog 233 [nv x,nv y] H emp fun v _ _=>v=ne (SubF x y):=by
  refine Cl_of (pol:=fun | 9=>.imm | _=>.loc) Γok Tryz.func233 (by kernel_rfl) rfl ?_
  conv=>whnf
  iterate 3 (intro _;conv=>whnf)
  intro b hb hO
  conv=>whnf
  refine (c161 [x,y] _ _ (pair_num (ins_same _ _ _)) (by simp)).val fun H1 hs1=>?_
  conv=>whnf
  unfold SubF
  refine if_intro (fun he=>?_) (fun he=>?_)
  · conv=>whnf
    rw[if_neg (show ¬ checks2 x y=0 by simpa[checks2] using he)]
    rfl
  · have h0:checks2 x y=0:=by simpa[checks2] using he
    obtain⟨k1,k2⟩:=maxI_bounds h0
    rw[if_pos h0]
    conv=>whnf
    refine (c165 (fun a b=>wr (a - b)) 253 c187 x y k1 k2 _).val fun H3 hs3=>?_
    conv=>whnf
    rfl
theorem c141 (x : P4 × Int) (H:PH):Cl Tryz.prog 171 [nv x] H emp fun v _ _=>v=ne (NegF x):=by
  refine Cl_of (pol:=polL) Γok Tryz.func171 (by kernel_rfl) rfl ?_
  conv=>whnf
  repeat (intro _;conv=>whnf)
  refine (c176 (P4.zero,0) x _).val fun H1 hs1=>?_
  conv=>whnf
  rfl
end Go.Proofs.YtgbhgfdgifkdhaaGreat

namespace Go.Proofs.YtgbhgfdgifkdhaaGreat
open Go.Proofs.YtgbhgfdgifkdhaaGreat.X Go.Proofs.YtgbhgfdgifkdhaaGreat.X.PH
set_option maxRecDepth 100000
def timesP (p q : P4):P4:=
  ⟨wr (wr (wr (wr (0+wr (p.a*q.a)) - wr (p.b*q.d)) - wr (p.c*q.c)) - wr (p.d*q.b)),
   wr (wr (wr (wr (0+wr (p.a*q.b))+wr (p.b*q.a)) - wr (p.c*q.d)) - wr (p.d*q.c)),
   wr (wr (wr (wr (0+wr (p.a*q.c))+wr (p.b*q.b))+wr (p.c*q.a)) - wr (p.d*q.d)),
   wr (wr (wr (wr (0+wr (p.a*q.d))+wr (p.b*q.c))+wr (p.c*q.b))+wr (p.d*q.a))⟩
theorem c184 (p q : P4) (H:PH):Cl Tryz.prog 244 [p.v,q.v] H emp fun v _ _=>v=(timesP p q).v:=by
  refine Cl_of (pol:=polL) Γok Tryz.func244 (by kernel_rfl) rfl ?_
  conv=>whnf
  repeat (intro _;conv=>whnf)
  refine W_rounds (pol:=polL) Γok 5 ?_
  conv=>whnf
  refine W_rounds (pol:=polL) Γok 5 ?_
  conv=>whnf
  refine W_rounds (pol:=polL) Γok 5 ?_
  conv=>whnf
  refine W_rounds (pol:=polL) Γok 5 ?_
  conv=>whnf
  refine W_rounds (pol:=polL) Γok 5 ?_
  conv=>whnf
  rfl
theorem c162 (p : P4) (k:Int) (y:P4 × Int) (H:PH):Cl Tryz.prog 186 [p.work k,nv y] H emp fun v _ _=>v=(timesP p y.1).work (wr (k+y.2)):=by
  refine Cl_of (pol:=polL) Γok Tryz.func186 (by kernel_rfl) rfl ?_
  conv=>whnf
  repeat (intro _;conv=>whnf)
  refine W_draw (pol:=polL) Γok mixes [(0,.pendO),(2,.pend),(6,.pend),(7,.pend),(8,.pend),(9,.pend),(10,.pend),(11,.pend),(1,.lock),(3,.lock),(4,.lock),(5,.lock),(12,.lock),(13,.lock),(14,.lock)] 19 (by kernel_rfl) rfl ?_
  conv=>whnf
  refine (c157 p k _).val fun H1 hs1=>?_
  conv=>whnf
  refine (c151 y.1 y.2 _).val fun H2 hs2=>?_
  conv=>whnf
  refine (c157 y.1 y.2 _).val fun H3 hs3=>?_
  conv=>whnf
  refine (c184 p y.1 _).val fun H4 hs4=>?_
  conv=>whnf
  refine (c170 (timesP p y.1) (wr (k+y.2)) _).val fun H5 hs5=>?_
  conv=>whnf
  refine (c151 (timesP p y.1) (wr (k+y.2)) _).val fun H6 hs6=>?_
  conv=>whnf
  rfl
theorem wr_bounds (n : Int):-9223372036854775808≤wr n∧wr n < 9223372036854775808:=by
  unfold wr
  rw[IntKind.wrap_i64]
  omega
def MulF (x y : P4 × Int):(P4 × Int) × Int:=if checks2 x y=0 then leastF (timesP x.1 y.1) (wr (x.2+y.2)) else ((P4.zero,0),checks2 x y)
theorem c104 (x y : P4 × Int) (H:PH):Cl Tryz.prog 96 [nv x,nv y] H emp fun v _ _=>v=ne (MulF x y):=by
  refine Cl_of (pol:=fun | 9=>.imm | _=>.loc) Γok Tryz.func96 (by kernel_rfl) rfl ?_
  conv=>whnf
  iterate 3 (intro _;conv=>whnf)
  intro b hb hO
  conv=>whnf
  refine (c161 [x,y] _ _ (pair_num (ins_same _ _ _)) (by simp)).val fun H1 hs1=>?_
  conv=>whnf
  unfold MulF
  refine if_intro (fun he=>?_) (fun he=>?_)
  · conv=>whnf
    rw[if_neg (show ¬ checks2 x y=0 by simpa[checks2] using he)]
    rfl
  · have h0:checks2 x y=0:=by simpa[checks2] using he
    rw[if_pos h0]
    conv=>whnf
    refine W_draw (pol:=polL) Γok mixes [(0,.pendO),(2,.pend),(1,.lock),(3,.lock),(4,.lock),(5,.pendO),(6,.pendO),(7,.lock),(8,.pendO)] 22 (by kernel_rfl) rfl ?_
    conv=>whnf
    refine (c151 x.1 x.2 _).val fun H2 hs2=>?_
    conv=>whnf
    refine (c162 x.1 x.2 y _).val fun H3 hs3=>?_
    conv=>whnf
    refine (c152 (timesP x.1 y.1) (wr (x.2+y.2)) (wr_bounds _).1 (wr_bounds _).2 _).val fun H4 hs4=>?_
    conv=>whnf
    rfl
def conjP (p : P4):P4:=⟨p.a,wr (0 - p.d),wr (0 - p.c),wr (0 - p.b)⟩
theorem c171 (p : P4) (H:PH):Cl Tryz.prog 218 [p.v] H emp fun v _ _=>v=(conjP p).v:=by
  refine Cl_of (pol:=polL) Γok Tryz.func218 (by kernel_rfl) rfl ?_
  conv=>whnf
  repeat (intro _;conv=>whnf)
  rfl
def ConjF (x : P4 × Int):(P4 × Int) × Int:=if checkF x.1 x.2=0 then leastF (conjP x.1) x.2 else ((P4.zero,0),checkF x.1 x.2)
theorem c122 (x : P4 × Int) (H:PH):Cl Tryz.prog 144 [nv x] H emp fun v _ _=>v=ne (ConjF x):=by
  refine Cl_of (pol:=polL) Γok Tryz.func144 (by kernel_rfl) rfl ?_
  conv=>whnf
  repeat (intro _;conv=>whnf)
  refine (c93 x.1 x.2 _).val fun H1 hs1=>?_
  conv=>whnf
  unfold ConjF
  refine if_intro (fun he=>?_) (fun he=>?_)
  · conv=>whnf
    rw[if_neg (by simpa using he)]
    rfl
  · have h0:checkF x.1 x.2=0:=by simpa using he
    have:=checkF_range h0
    rw[if_pos h0]
    conv=>whnf
    refine W_draw (pol:=polL) Γok mixes [(0,.pendO),(4,.pend),(5,.pend),(1,.lock),(2,.lock),(3,.lock),(6,.lock),(7,.lock),(8,.lock),(9,.pendO),(10,.pendO),(11,.lock),(12,.pendO)] 22 (by kernel_rfl) rfl ?_
    conv=>whnf
    refine (c151 x.1 x.2 _).val fun H2 hs2=>?_
    conv=>whnf
    refine (c157 x.1 x.2 _).val fun H3 hs3=>?_
    conv=>whnf
    refine (c171 x.1 _).val fun H4 hs4=>?_
    conv=>whnf
    refine (c170 (conjP x.1) x.2 _).val fun H5 hs5=>?_
    conv=>whnf
    refine (c151 (conjP x.1) x.2 _).val fun H6 hs6=>?_
    conv=>whnf
    refine (c152 (conjP x.1) x.2 (by omega) (by omega) _).val fun H7 hs7=>?_
    conv=>whnf
    rfl
def RootF (k : Int):(P4 × Int) × Int:=if decide (k < 0) || decide (k > 60) then ((P4.zero,0),3) else ((⟨1,0,0,0⟩,k),0)
theorem c140 (k : Int) (H:PH):Cl Tryz.prog 179 [.int .i64 k] H emp fun v _ _=>v=ne (RootF k):=by
  refine Cl_of (pol:=polL) Γok Tryz.func179 (by kernel_rfl) rfl ?_
  conv=>whnf
  repeat (intro _;conv=>whnf)
  unfold RootF
  refine if_intro (fun h1=>?_) (fun h1=>?_)
  · conv=>whnf
    rw[h1]
    rfl
  conv=>whnf
  refine if_intro (fun h2=>?_) (fun h2=>?_)
  · conv=>whnf
    rw[h2,Bool.or_true]
    rfl
  conv=>whnf
  rw[h1,h2]
  rfl
end Go.Proofs.YtgbhgfdgifkdhaaGreat

namespace Go.Proofs.YtgbhgfdgifkdhaaGreat
open Go.Proofs.YtgbhgfdgifkdhaaGreat.X Go.Proofs.YtgbhgfdgifkdhaaGreat.X.PH
set_option maxRecDepth 100000
def omegaP : Nat→P4
  | 0=>⟨1,0,0,0⟩
  | 1=>⟨0,1,0,0⟩
  | 2=>⟨0,0,1,0⟩
  | 3=>⟨0,0,0,1⟩
  | 4=>⟨-1,0,0,0⟩
  | 5=>⟨0,-1,0,0⟩
  | 6=>⟨0,0,-1,0⟩
  | _=>⟨0,0,0,-1⟩
def powL (i : Nat):List Value:=[.int .i64 i,(omegaP i).num 0]
def powersL : List (List Value):=(List.range 8).map powL
theorem powersL_get {k : Nat} (hk:k < 8):powersL[k]?=some (powL k):=by
  unfold powersL
  simp[hk]
theorem c173 (H0 : PH):Iter Tryz.prog H0 (.func (.func 239) #[] #[]) powersL:=by
  refine⟨239,[],[],rfl,fun H hH l M J Jx hJ hup hy=>?_⟩
  refine Cl_of (pol:=polL) Γok Tryz.func239 (by kernel_rfl) rfl ?_
  conv=>whnf
  refine W_rounds (pol:=polL) Γok 9 ?_
  conv=>whnf
  intro b0
  conv=>whnf
  refine (c170 (omegaP 0) 0 _).val fun G0 t0=>?_
  conv=>whnf
  refine (hy _ _ (powersL_get (k:=0) (by decide)) _ _ t0 (hup _ _ _ _ hJ t0)).mono fun r H1 M1 u1 hq=>?_
  have s1:=t0.trans u1
  rcases hq with⟨rfl,j1⟩ | ⟨rfl,hX⟩
  rotate_left
  · conv=>whnf
    exact .inr hX
  conv=>whnf
  intro b1
  conv=>whnf
  refine (c170 (omegaP 1) 0 _).val fun G1 t1=>?_
  conv=>whnf
  refine (hy _ _ (powersL_get (k:=1) (by decide)) _ _ (s1.trans t1) (hup _ _ _ _ j1 t1)).mono fun r H2 M2 u2 hq=>?_
  have s2:=(s1.trans t1).trans u2
  rcases hq with⟨rfl,j2⟩ | ⟨rfl,hX⟩
  rotate_left
  · conv=>whnf
    exact .inr hX
  conv=>whnf
  intro b2
  conv=>whnf
  refine (c170 (omegaP 2) 0 _).val fun G2 t2=>?_
  conv=>whnf
  refine (hy _ _ (powersL_get (k:=2) (by decide)) _ _ (s2.trans t2) (hup _ _ _ _ j2 t2)).mono fun r H3 M3 u3 hq=>?_
  have s3:=(s2.trans t2).trans u3
  rcases hq with⟨rfl,j3⟩ | ⟨rfl,hX⟩
  rotate_left
  · conv=>whnf
    exact .inr hX
  conv=>whnf
  intro b3
  conv=>whnf
  refine (c170 (omegaP 3) 0 _).val fun G3 t3=>?_
  conv=>whnf
  refine (hy _ _ (powersL_get (k:=3) (by decide)) _ _ (s3.trans t3) (hup _ _ _ _ j3 t3)).mono fun r H4 M4 u4 hq=>?_
  have s4:=(s3.trans t3).trans u4
  rcases hq with⟨rfl,j4⟩ | ⟨rfl,hX⟩
  rotate_left
  · conv=>whnf
    exact .inr hX
  conv=>whnf
  intro b4
  conv=>whnf
  refine (c170 (omegaP 4) 0 _).val fun G4 t4=>?_
  conv=>whnf
  refine (hy _ _ (powersL_get (k:=4) (by decide)) _ _ (s4.trans t4) (hup _ _ _ _ j4 t4)).mono fun r H5 M5 u5 hq=>?_
  have s5:=(s4.trans t4).trans u5
  rcases hq with⟨rfl,j5⟩ | ⟨rfl,hX⟩
  rotate_left
  · conv=>whnf
    exact .inr hX
  conv=>whnf
  intro b5
  conv=>whnf
  refine (c170 (omegaP 5) 0 _).val fun G5 t5=>?_
  conv=>whnf
  refine (hy _ _ (powersL_get (k:=5) (by decide)) _ _ (s5.trans t5) (hup _ _ _ _ j5 t5)).mono fun r H6 M6 u6 hq=>?_
  have s6:=(s5.trans t5).trans u6
  rcases hq with⟨rfl,j6⟩ | ⟨rfl,hX⟩
  rotate_left
  · conv=>whnf
    exact .inr hX
  conv=>whnf
  intro b6
  conv=>whnf
  refine (c170 (omegaP 6) 0 _).val fun G6 t6=>?_
  conv=>whnf
  refine (hy _ _ (powersL_get (k:=6) (by decide)) _ _ (s6.trans t6) (hup _ _ _ _ j6 t6)).mono fun r H7 M7 u7 hq=>?_
  have s7:=(s6.trans t6).trans u7
  rcases hq with⟨rfl,j7⟩ | ⟨rfl,hX⟩
  rotate_left
  · conv=>whnf
    exact .inr hX
  conv=>whnf
  intro b7
  conv=>whnf
  refine (c170 (omegaP 7) 0 _).val fun G7 t7=>?_
  conv=>whnf
  refine (hy _ _ (powersL_get (k:=7) (by decide)) _ _ (s7.trans t7) (hup _ _ _ _ j7 t7)).mono fun r H8 M8 u8 hq=>?_
  have s8:=(s7.trans t7).trans u8
  rcases hq with⟨rfl,j8⟩ | ⟨rfl,hX⟩
  rotate_left
  · conv=>whnf
    exact .inr hX
  conv=>whnf
  exact .inl j8
end Go.Proofs.YtgbhgfdgifkdhaaGreat

namespace Go.Proofs.YtgbhgfdgifkdhaaGreat
open Go.Proofs.YtgbhgfdgifkdhaaGreat.X Go.Proofs.YtgbhgfdgifkdhaaGreat.X.PH
set_option maxRecDepth 100000
theorem c129 (H : PH):Cl Tryz.prog 181 [] H emp fun v _ _=>v=.func (.func 239) #[] #[]:=by
  refine Cl_of (pol:=polL) Γok Tryz.func181 (by kernel_rfl) rfl ?_
  conv=>whnf
def entO (j : Nat):MapEntry:={ key:=.int .i64 j,val:=(omegaP j).num 0,born:=j }
def entsO (k : Nat):Array MapEntry:=⟨(List.range k).map entO⟩
theorem entsO_find {k : Nat} (hk:k < 8):Instr.findNow (.int .i64) (.int .i64 k) (entsO k).toList 0=some none:=by
  obtain rfl | rfl | rfl | rfl | rfl | rfl | rfl | rfl:k=0∨k=1∨k=2∨k=3∨k=4∨k=5∨k=6∨k=7:=by omega
  all_goals rfl
theorem entsO_found {k : Nat} (hk:k < 8):Instr.findNow (.int .i64) (.int .i64 k) (entsO 8).toList 0=some (some (k,(omegaP k).num 0)):=by
  obtain rfl | rfl | rfl | rfl | rfl | rfl | rfl | rfl:k=0∨k=1∨k=2∨k=3∨k=4∨k=5∨k=6∨k=7:=by omega
  all_goals rfl
theorem entsO_push (k : Nat):(entsO k).push (entO k)=entsO (k+1):=by
  unfold entsO
  rw[List.range_succ,List.map_append]
  simp
theorem modI_eq (n : Int):(IntKind.i64.wrap (n.tmod 8+8)).tmod 8=n % 8:=by
  have h:=Int.tmod_eq_emod (a:=n) (b:=8)
  have e1:n.tmod 8=n % 8∨n.tmod 8=n % 8 - 8:=by
    rw[h]
    split
    · left;simp
    · right;rfl
  rw[wrap_id (by omega) (by omega),Int.tmod_eq_emod_of_nonneg (by omega)]
  omega
def OmegaF (n : Int):P4 × Int:=(omegaP (n % 8).toNat,0)
theorem c54 (n : Int) (H:PH):Cl Tryz.prog 92 [.int .i64 n] H emp fun v _ _=>v=nv (OmegaF n):=by
  refine Cl_of (pol:=polL) Γok Tryz.func92 (by kernel_rfl) rfl ?_
  conv=>whnf
  intro b2
  conv=>whnf
  intro bm hbm hOm
  conv=>whnf
  intro b3
  conv=>whnf
  refine (c129 _).val fun H1 hs1=>?_
  conv=>whnf
  refine W_range (pol:=polL) Γok powersL (c173 H1) Nat (fun k i _=>i=k∧k≤8) (fun _ _ _=>False) (fun _=>[]) (fun i=>ins emp bm (.map (entsO i) i)) (fun _ _ _ _ _ h=>h) (fun _ _ _ _ _ h=>h) ⟨0,⟨rfl,by decide⟩,rfl,?_⟩ ?_ ?_ ?_
  · conv=>whnf
  · rintro k x hx i H' hs' ⟨rfl,hk⟩ l o o' hl
    have hk8:i < 8:=by
      have:=(List.getElem?_eq_some_iff.1 hx).1
      simpa[powersL] using this
    rw[powersL_get hk8] at hx
    cases hx
    have hne:bm ≠ l:=fun e=>by subst e;rw[ins_same] at hl;cases hl
    conv=>whnf
    intro b5
    conv=>whnf
    refine⟨rfl,?_⟩
    conv=>whnf
    refine⟨_,rfl,?_⟩
    conv=>whnf
    unfold enterK
    refine .inl ?_
    refine⟨.i64,i,bm,entsO i,i,rfl,rfl,(ins_ne _ _ hne).trans (ins_same _ _ _),entsO_find hk8,?_⟩
    conv=>whnf
    refine⟨i+1,.inl ⟨rfl,rfl,hk8⟩,?_,?_,?_⟩
    · rw[ins_ne _ _ hne.symm]
      rfl
    · rw[← entsO_push,ins_comm _ _ _ hne,ins_ins]
      exact ins_comm _ _ _ hne.symm
    · conv=>whnf
      repeat (refine⟨rfl,?_⟩;conv=>whnf)
      exact trivial
  · rintro i H' hs' ⟨rfl,_⟩
    conv=>whnf
    rw[modI_eq]
    unfold lookK
    have h8:n % 8=((n % 8).toNat:Int):=by omega
    refine⟨.i64,n % 8,rfl,.inr ⟨bm,entsO 8,8,some ((n % 8).toNat,(omegaP (n % 8).toNat).num 0),rfl,.inr (ins_same _ _ _),?_,?_⟩⟩
    · rw[h8]
      exact entsO_found (by omega)
    intro z
    conv=>whnf
    rfl
  · rintro e i H' hs' h
    exact h.elim
end Go.Proofs.YtgbhgfdgifkdhaaGreat

namespace Go.Proofs.YtgbhgfdgifkdhaaGreat
open Go.Proofs.YtgbhgfdgifkdhaaGreat.X Go.Proofs.YtgbhgfdgifkdhaaGreat.X.PH
set_option maxRecDepth 100000
structure OwnB (M : PH) (bs:List Nat) (b0 h w:Nat) (m:List (List (P4 × Int))):Prop where
  rows:RowsO M bs m
  nb:b0 ∉ bs
  list:M b0=some (.cells ⟨bs.map fun b=>rowV b w⟩ 31 (0,0))
  len:m.length=h
  wid:∀ (i:Nat) r,m[i]?=some r→r.length=w
theorem OwnM.ownB {M : PH} {v:Value} {h w:Nat} {m:List (List (P4 × Int))} (hm:OwnM M v h w m):∃ bs b0,v=.slice (some ⟨b0,0,none⟩) h h∧OwnB M bs b0 h w m:=by
  obtain⟨h1,h2,bs,b0,hr,h3,h4,h5⟩:=hm
  exact⟨bs,b0,h4,hr,h3,h5,h1,h2⟩
theorem OwnB.row {M : PH} {bs:List Nat} {b0 h w:Nat} {m:List (List (P4 × Int))} (hm:OwnB M bs b0 h w m) {i:Nat} (hi:i < h) (H:PH) :
    ∃ b r,bs[i]?=some b∧m[i]?=some r∧r.length=w∧b ≠ b0∧M b=some (.cells ⟨cellsN r⟩ 33 (0,0))∧Rd H M ⟨b0,0+i*1,none⟩ 1 [.slice (some ⟨b,0,none⟩) w w]:=by
  have him:i < m.length:=by rw[hm.len];exact hi
  have hib:i < bs.length:=by rw[hm.rows.len];exact him
  refine⟨bs[i],m[i],List.getElem?_eq_getElem hib,List.getElem?_eq_getElem him,hm.wid _ _ (List.getElem?_eq_getElem him),fun e=>hm.nb (by rw[← e];exact List.getElem_mem hib),hm.rows.cells _ _ _ (List.getElem?_eq_getElem hib) (List.getElem?_eq_getElem him),rfl,rfl,_,_,_,.inr hm.list,?_⟩
  simp[List.drop_eq_getElem_cons,hib,rowV]
theorem setM_shape {m : List (List (P4 × Int))} {h w:Nat} (h1:m.length=h) (h2:∀ (i:Nat) r,m[i]?=some r→r.length=w) (i k:Nat) (x:P4 × Int):(setM m i k x).length=h∧∀ (j:Nat) r,(setM m i k x)[j]?=some r→r.length=w:=by
  refine⟨by simp[setM,h1],fun j r hr=>?_⟩
  unfold setM at hr
  by_cases e:i=j
  · by_cases hi:i < m.length
    · rw[← e,List.getElem?_set_self hi] at hr
      cases hr
      rw[List.length_set,List.getD_eq_getElem?_getD,List.getElem?_eq_getElem hi]
      exact h2 _ _ (List.getElem?_eq_getElem hi)
    · rw[List.getElem?_eq_none (by simp;omega)] at hr
      cases hr
  · rw[List.getElem?_set_ne e] at hr
    exact h2 j r hr
theorem OwnB.set {M : PH} {bs:List Nat} {b0 h w:Nat} {m:List (List (P4 × Int))} (hm:OwnB M bs b0 h w m) {i k b:Nat} {r:List (P4 × Int)} (hb:bs[i]?=some b) (hr:m[i]?=some r) (hk:k < w) (x:P4 × Int) :
    OwnB (ins M b (.cells ⟨(cellsN r).take (0+k*5)++cellsOf x++(cellsN r).drop (0+k*5+5)⟩ 33 (0,0))) bs b0 h w (setM m i k x):=by
  have hl:=hm.wid _ _ hr
  obtain⟨s1,s2⟩:=setM_shape hm.len hm.wid i k x
  have hne:b0 ≠ b:=fun e=>hm.nb (by rw[e];exact List.mem_of_getElem? hb)
  rw[cellsN_set r k x (by omega)]
  have:=hm.rows.set (i:=i) (k:=k) x hb
  rw[List.getD_eq_getElem?_getD,hr,Option.getD_some] at this
  exact⟨this,hm.nb,(ins_ne _ _ hne).trans hm.list,s1,s2⟩
structure RowsB (H M : PH) (v:Value) (bs:List Nat) (h w:Nat) (m:List (List (P4 × Int))):Prop where
  rows:RowsO M bs m
  list:SlH H v h (bs.map fun b=>rowV b w)
  len:m.length=h
  wid:∀ (i:Nat) r,m[i]?=some r→r.length=w
theorem RowsB.up {H H' M : PH} {v:Value} {bs:List Nat} {h w:Nat} {m:List (List (P4 × Int))} (hm:RowsB H M v bs h w m) (hs:Sub H H'):RowsB H' M v bs h w m:=⟨hm.rows,hm.list.up hs,hm.len,hm.wid⟩
theorem c73p (h w : Nat) (hh:h < 1000000) (hw:w < 1000000) (H:PH):Cl Tryz.prog 105 [.int .i64 h,.int .i64 w] H emp fun r H' M'=>∃ bs base cap,r=.slice base h cap∧RowsB H' M' r bs h w (List.replicate h (zeros w)):=by
  refine (c73 h w hh hw H).repart fun r H' M' _ hd hq=>?_
  obtain⟨_,hq⟩:=hq
  obtain⟨bs,b0,rfl,hB⟩:=hq.ownB
  refine⟨_,_,.one hd hB.list,bs,_,_,rfl,hB.rows.of_sub fun b hb=>del_ne _ fun e=>by subst e;exact hB.nb hb,⟨_,_,rfl,.inr ⟨b0,0,_,_,_,rfl,ins_same _ _ _,?_⟩⟩,hB.len,hB.wid⟩
  rw[List.drop_zero]
  exact List.take_length
theorem RowsB.row {H M : PH} {base:Option Addr} {n cap:Nat} {bs:List Nat} {h w:Nat} {m:List (List (P4 × Int))} (hm:RowsB H M (.slice base n cap) bs h w m) {i:Nat} (hi:i < h) :
    ∃ b0 off b r,base=some ⟨b0,off,none⟩∧bs[i]?=some b∧m[i]?=some r∧r.length=w∧M b=some (.cells ⟨cellsN r⟩ 33 (0,0))∧∀ O,Rd H O ⟨b0,off+i*1,none⟩ 1 [.slice (some ⟨b,0,none⟩) w w]:=by
  have him:i < m.length:=by rw[hm.len];exact hi
  have hib:i < bs.length:=by rw[hm.rows.len];exact him
  obtain⟨_,_,hv,_⟩:=id hm.list
  cases hv
  obtain⟨b0,off,hb,hrd⟩:=SlH.rd (O:=emp) (sz:=1) hm.list (by simp[hm.rows.len,hm.len]) hi
  have e:(List.take 1 (List.drop (i*1) (bs.map fun b=>rowV b w)))=[rowV bs[i] w]:=by
    rw[Nat.mul_one,List.drop_eq_getElem_cons (by simpa using hib),List.take_succ_cons,List.take_zero,List.getElem_map]
  rw[e] at hrd
  exact⟨b0,off,bs[i],m[i],hb,List.getElem?_eq_getElem hib,List.getElem?_eq_getElem him,hm.wid _ _ (List.getElem?_eq_getElem him),hm.rows.cells _ _ _ (List.getElem?_eq_getElem hib) (List.getElem?_eq_getElem him),fun O=>hrd.anyO⟩
theorem RowsB.set {H M : PH} {v:Value} {bs:List Nat} {h w:Nat} {m:List (List (P4 × Int))} (hm:RowsB H M v bs h w m) {i k b:Nat} {r:List (P4 × Int)} (hb:bs[i]?=some b) (hr:m[i]?=some r) (hk:k < w) (x:P4 × Int) :
    RowsB H (ins M b (.cells ⟨(cellsN r).take (0+k*5)++cellsOf x++(cellsN r).drop (0+k*5+5)⟩ 33 (0,0))) v bs h w (setM m i k x):=by
  have hl:=hm.wid _ _ hr
  obtain⟨s1,s2⟩:=setM_shape hm.len hm.wid i k x
  rw[cellsN_set r k x (by omega)]
  have:=hm.rows.set (i:=i) (k:=k) x hb
  rw[List.getD_eq_getElem?_getD,hr,Option.getD_some] at this
  exact⟨this,hm.list,s1,s2⟩
theorem RowsB.mat {H M : PH} (hd:Dis H M) {v:Value} {bs:List Nat} {h w:Nat} {m:List (List (P4 × Int))} (hm:RowsB H M v bs h w m):MatH (un H M) v m:=by
  refine⟨bs.map fun b=>rowV b w,by simp[hm.rows.len],(by rw[hm.len];exact hm.list.up fun n o hn=>by simp[un,hn]),fun i r u hr' hu=>?_⟩
  rw[List.getElem?_map] at hu
  obtain⟨b,hb,rfl⟩:=Option.map_eq_some_iff.1 hu
  have hw:=hm.wid i r hr'
  refine⟨some ⟨b,0,none⟩,w,by rw[hw];rfl,.inr ⟨b,0,_,_,_,rfl,un_right hd (hm.rows.cells i b r hb hr'),?_⟩⟩
  rw[List.drop_zero]
  exact List.take_length
def oneN : P4 × Int:=(⟨1,0,0,0⟩,0)
theorem c74 (H : PH):Cl Tryz.prog 106 [] H emp fun v _ _=>v=nv oneN:=by
  refine Cl_of (pol:=polL) Γok Tryz.func106 (by kernel_rfl) rfl ?_
  conv=>whnf
  repeat (intro _;conv=>whnf)
  refine (c54 0 _).val fun H1 hs1=>?_
  conv=>whnf
  rfl
def movedM (t : Nat→Nat) (n:Nat):Nat→List (List (P4 × Int))
  | 0=>List.replicate n (zeros n)
  | k+1=>setM (movedM t n k) (t k) k oneN
theorem c133 (t : Nat→Nat) (n:Nat) (hn:n < 1000000) (ht:∀ k,k < n→t k < n) (H:PH) (fn:Fn) (first cp:Array Value) (hf:∀ k,k < n→Does Tryz.prog H (.func fn first cp) [.int .i64 k] fun r _=>r=.int .i64 (t k)) :
    Cl Tryz.prog 192 [.int .i64 n,.func fn first cp] H emp fun r H' M'=>∃ bs,RowsB H' M' r bs n n (movedM t n n):=by
  refine Cl_of (pol:=polL) Γok Tryz.func192 (by kernel_rfl) rfl ?_
  conv=>whnf
  refine (c73p n n hn hn H).mono fun r H1 M1 hs1 hq=>?_
  obtain⟨bs,base,cap,rfl,hB⟩:=hq
  conv=>whnf
  refine W_loop (pol:=polL) Γok (Nat × PH × PH) (fun i=>i.1≤n∧Sub H1 i.2.1∧RowsB H1 i.2.2 (.slice base n cap) bs n n (movedM t n i.1)) (fun i=>n - i.1) (fun i=>[(11,.v (.int .i64 i.1))]) (fun _=>[]) (fun i=>i.2.1) (fun i=>i.2.2) ⟨(0,H1,M1),⟨by simp,Sub.refl _,hB⟩,rfl,rfl,?_⟩ ?_
  · conv=>whnf
    repeat (refine⟨rfl,?_⟩;conv=>whnf)
    exact trivial
  · rintro ⟨i,H',O⟩ ⟨h1,h2,h3⟩
    dsimp only at h1 h2 h3
    conv=>whnf
    refine if_intro (fun hg=>?_) (fun hg=>?_)
    · have hi:i < n:=by simpa using hg
      conv=>whnf
      refine W_draw (pol:=polL) Γok mixes [(0,.pend),(1,.pendO),(2,.pendO),(6,.pend),(3,.lock),(4,.pend),(5,.pend),(7,.lock),(8,.pendO),(9,.lock)] 25 (by kernel_rfl) rfl ?_
      conv=>whnf
      refine (((hf i hi).up hs1).up h2).use fun r H2 hs2 hr=>?_
      subst hr
      conv=>whnf
      obtain⟨b0,off,b,r,rfl,hb,hr,hl,hO,hrd⟩:=(h3.up (h2.trans hs2)).row (ht i hi)
      have hti:=ht i hi
      conv=>whnf
      refine dec_intro (by omega) ?_
      conv=>whnf
      refine⟨_,hrd _,?_⟩
      conv=>whnf
      refine (c74 _).val fun H3 hs3=>?_
      conv=>whnf
      refine dec_intro (by omega) ?_
      conv=>whnf
      refine⟨_,_,hO,?_,?_⟩
      · show _≤(cellsN r).length
        rw[cellsN_length,hl]
        simp only[Int.toNat_natCast,List.length_cons,List.length_nil]
        omega
      conv=>whnf
      refine⟨(i+1,H3,_),⟨hi,h2.trans (hs2.trans hs3),h3.set hb hr hi oneN⟩,by dsimp only;omega,?_⟩
      conv=>whnf
      refine⟨rfl,rfl,?_⟩
      conv=>whnf
      repeat (refine⟨rfl,?_⟩;conv=>whnf)
      refine⟨by show En.v (.int .i64 (IntKind.i64.wrap (i+1)))=_;rw[wrap_id (by omega) (by omega)];rfl,?_⟩
      conv=>whnf
      repeat (refine⟨rfl,?_⟩;conv=>whnf)
      exact trivial
    · conv=>whnf
      have hi:i=n:=by simp at hg;omega
      subst hi
      exact⟨bs,h3.up h2⟩
end Go.Proofs.YtgbhgfdgifkdhaaGreat

namespace Go.Proofs.YtgbhgfdgifkdhaaGreat
open Go.Proofs.YtgbhgfdgifkdhaaGreat.X Go.Proofs.YtgbhgfdgifkdhaaGreat.X.PH
set_option maxRecDepth 100000
def diagM (l : List (P4 × Int)):Nat→List (List (P4 × Int))
  | 0=>List.replicate l.length (zeros l.length)
  | i+1=>setM (diagM l i) i i (l.getD i (P4.zero,0))
theorem c143 (l : List (P4 × Int)) (hn:l.length < 1000000) (H:PH) (v:Value) (hv:NumH H v l) :
    Cl Tryz.prog 194 [v] H emp fun r H' M'=>∃ bs,RowsB H' M' r bs l.length l.length (diagM l l.length):=by
  obtain⟨lb,lc,rfl,_⟩:=id hv
  refine Cl_of (pol:=polL) Γok Tryz.func194 (by kernel_rfl) rfl ?_
  conv=>whnf
  refine (c73p l.length l.length hn hn H).mono fun r H1 M1 hs1 hq=>?_
  obtain⟨bs,base,cap,rfl,hB⟩:=hq
  conv=>whnf
  refine W_loop (pol:=polL) Γok (Nat × PH × PH) (fun i=>i.1≤l.length∧Sub H1 i.2.1∧RowsB H1 i.2.2 (.slice base l.length cap) bs l.length l.length (diagM l i.1)) (fun i=>l.length - i.1) (fun i=>[(13,.v (.int .i64 i.1))]) (fun _=>[]) (fun i=>i.2.1) (fun i=>i.2.2) ⟨(0,H1,M1),⟨by simp,Sub.refl _,hB⟩,rfl,rfl,?_⟩ ?_
  · conv=>whnf
    repeat (refine⟨rfl,?_⟩;conv=>whnf)
    exact trivial
  · rintro ⟨i,H',O⟩ ⟨h1,h2,h3⟩
    dsimp only at h1 h2 h3
    conv=>whnf
    refine if_intro (fun hg=>?_) (fun hg=>?_)
    · have hi:i < l.length:=by simpa using hg
      obtain⟨_,lb0,loff,rfl,hlrd⟩:=((hv.up hs1).up h2).rd (O:=emp) hi
      conv=>whnf
      refine dec_intro (by omega) ?_
      conv=>whnf
      refine⟨_,hlrd.anyO,?_⟩
      conv=>whnf
      intro bx
      conv=>whnf
      refine W_draw (pol:=polL) Γok mixes [(0,.pendO),(1,.pendO),(2,.pendO),(3,.pendO),(4,.pendO),(5,.pendO),(6,.pendO),(7,.lock)] 27 (by kernel_rfl) rfl ?_
      obtain⟨b0,off,b,r,rfl,hb,hr,hl,hO,hrd⟩:=(h3.up h2).row hi
      conv=>whnf
      refine dec_intro (by omega) ?_
      conv=>whnf
      refine⟨_,hrd _,?_⟩
      conv=>whnf
      refine dec_intro (by omega) ?_
      conv=>whnf
      refine⟨_,_,hO,?_,?_⟩
      · show _≤(cellsN r).length
        rw[cellsN_length,hl]
        simp only[Int.toNat_natCast,List.length_cons,List.length_nil]
        omega
      conv=>whnf
      refine⟨(i+1,H',_),⟨hi,h2,h3.set hb hr hi (l.getD i (P4.zero,0))⟩,by dsimp only;omega,?_⟩
      have hg:l.getD i (P4.zero,0)=l[i]:=by simp[List.getD_eq_getElem?_getD,hi]
      rw[hg]
      conv=>whnf
      refine⟨rfl,rfl,?_⟩
      conv=>whnf
      repeat (refine⟨rfl,?_⟩;conv=>whnf)
      refine⟨by show En.v (.int .i64 (IntKind.i64.wrap (i+1)))=_;rw[wrap_id (by omega) (by omega)];rfl,?_⟩
      conv=>whnf
      repeat (refine⟨rfl,?_⟩;conv=>whnf)
      exact trivial
    · conv=>whnf
      have hi:i=l.length:=by simp at hg;omega
      subst hi
      exact⟨bs,h3.up h2⟩
theorem c142 (k : Int) (H:PH):Cl Tryz.prog 193 [.int .i64 k] H emp fun v _ _=>v=.int .i64 (wr (1 - k)):=by
  refine Cl_of (pol:=polL) Γok Tryz.func193 (by kernel_rfl) rfl ?_
  conv=>whnf
  rfl
def tX (k : Nat):Nat:=1 - k
def tCX : Nat→Nat
  | 1=>3
  | 3=>1
  | k=>k
def tSwap : Nat→Nat
  | 1=>2
  | 2=>1
  | k=>k
def tCCX : Nat→Nat
  | 3=>7
  | 7=>3
  | k=>k
theorem c144 (k : Nat) (hk:k < 4) (H:PH):Cl Tryz.prog 195 [.int .i64 k] H emp fun v _ _=>v=.int .i64 (tCX k):=by
  refine Cl_of (pol:=polL) Γok Tryz.func195 (by kernel_rfl) rfl ?_
  obtain rfl | rfl | rfl | rfl:k=0∨k=1∨k=2∨k=3:=by omega
  all_goals conv=>whnf
  all_goals rfl
theorem c145 (k : Nat) (hk:k < 4) (H:PH):Cl Tryz.prog 196 [.int .i64 k] H emp fun v _ _=>v=.int .i64 (tSwap k):=by
  refine Cl_of (pol:=polL) Γok Tryz.func196 (by kernel_rfl) rfl ?_
  obtain rfl | rfl | rfl | rfl:k=0∨k=1∨k=2∨k=3:=by omega
  all_goals conv=>whnf
  all_goals rfl
theorem c146 (k : Nat) (hk:k < 8) (H:PH):Cl Tryz.prog 197 [.int .i64 k] H emp fun v _ _=>v=.int .i64 (tCCX k):=by
  refine Cl_of (pol:=polL) Γok Tryz.func197 (by kernel_rfl) rfl ?_
  obtain rfl | rfl | rfl | rfl | rfl | rfl | rfl | rfl:k=0∨k=1∨k=2∨k=3∨k=4∨k=5∨k=6∨k=7:=by omega
  all_goals conv=>whnf
  all_goals rfl
end Go.Proofs.YtgbhgfdgifkdhaaGreat

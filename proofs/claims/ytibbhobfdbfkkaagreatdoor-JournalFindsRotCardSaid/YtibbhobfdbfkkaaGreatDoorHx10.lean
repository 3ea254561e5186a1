/- A text of a proof over this seat: walks over the program's functions and the plain laws that they need. -/
import Derived.Test.YtibbhobfdbfkkaaGreatDoorHy0
import Derived.Test.YtibbhobfdbfkkaaGreatDoorHy1
import Derived.Test.YtibbhobfdbfkkaaGreatDoorHy2
import Derived.Test.YtibbhobfdbfkkaaGreatDoorHy3
import Derived.Test.YtibbhobfdbfkkaaGreatDoorHy4
import Derived.Test.YtibbhobfdbfkkaaGreatDoorHy5
import Derived.Test.YtibbhobfdbfkkaaGreatDoorHy6
import Derived.Test.YtibbhobfdbfkkaaGreatDoorHy7
import Derived.Test.YtibbhobfdbfkkaaGreatDoorHy8
import Derived.Test.YtibbhobfdbfkkaaGreatDoorHy9
import Derived.Test.YtibbhobfdbfkkaaGreatDoorHy10
import Derived.Test.YtibbhobfdbfkkaaGreatDoorHy11
import Derived.Test.YtibbhobfdbfkkaaGreatDoorHy12
import Derived.Test.YtibbhobfdbfkkaaGreatDoorHy13
import Derived.Test.YtibbhobfdbfkkaaGreatDoorHy14
import Derived.Test.YtibbhobfdbfkkaaGreatDoorHy15
import Derived.Test.YtibbhobfdbfkkaaGreatDoorHxA
set_option linter.all false
/-! no such pair -/
namespace Hx
theorem evs0 : ∀ s, 0 ≤ s → s < 16 → T s 11 := fun s h1 h2 => by
  rcases (show s = 0 ∨ s = 1 ∨ s = 2 ∨ s = 3 ∨ s = 4 ∨ s = 5 ∨ s = 6 ∨ s = 7 ∨ s = 8 ∨ s = 9 ∨ s = 10 ∨ s = 11 ∨ s = 12 ∨ s = 13 ∨ s = 14 ∨ s = 15 by omega) with rfl | rfl | rfl | rfl | rfl | rfl | rfl | rfl | rfl | rfl | rfl | rfl | rfl | rfl | rfl | rfl
  · exact ev0
  · exact ev1
  · exact ev2
  · exact ev3
  · exact ev4
  · exact ev5
  · exact ev6
  · exact ev7
  · exact ev8
  · exact ev9
  · exact ev10
  · exact ev11
  · exact ev12
  · exact ev13
  · exact ev14
  · exact ev15
theorem evs1 : ∀ s, 16 ≤ s → s < 32 → T s 11 := fun s h1 h2 => by
  rcases (show s = 16 ∨ s = 17 ∨ s = 18 ∨ s = 19 ∨ s = 20 ∨ s = 21 ∨ s = 22 ∨ s = 23 ∨ s = 24 ∨ s = 25 ∨ s = 26 ∨ s = 27 ∨ s = 28 ∨ s = 29 ∨ s = 30 ∨ s = 31 by omega) with rfl | rfl | rfl | rfl | rfl | rfl | rfl | rfl | rfl | rfl | rfl | rfl | rfl | rfl | rfl | rfl
  · exact ev16
  · exact ev17
  · exact ev18
  · exact ev19
  · exact ev20
  · exact ev21
  · exact ev22
  · exact ev23
  · exact ev24
  · exact ev25
  · exact ev26
  · exact ev27
  · exact ev28
  · exact ev29
  · exact ev30
  · exact ev31
theorem evs2 : ∀ s, 32 ≤ s → s < 48 → T s 11 := fun s h1 h2 => by
  rcases (show s = 32 ∨ s = 33 ∨ s = 34 ∨ s = 35 ∨ s = 36 ∨ s = 37 ∨ s = 38 ∨ s = 39 ∨ s = 40 ∨ s = 41 ∨ s = 42 ∨ s = 43 ∨ s = 44 ∨ s = 45 ∨ s = 46 ∨ s = 47 by omega) with rfl | rfl | rfl | rfl | rfl | rfl | rfl | rfl | rfl | rfl | rfl | rfl | rfl | rfl | rfl | rfl
  · exact ev32
  · exact ev33
  · exact ev34
  · exact ev35
  · exact ev36
  · exact ev37
  · exact ev38
  · exact ev39
  · exact ev40
  · exact ev41
  · exact ev42
  · exact ev43
  · exact ev44
  · exact ev45
  · exact ev46
  · exact ev47
theorem evs3 : ∀ s, 48 ≤ s → s < 64 → T s 11 := fun s h1 h2 => by
  rcases (show s = 48 ∨ s = 49 ∨ s = 50 ∨ s = 51 ∨ s = 52 ∨ s = 53 ∨ s = 54 ∨ s = 55 ∨ s = 56 ∨ s = 57 ∨ s = 58 ∨ s = 59 ∨ s = 60 ∨ s = 61 ∨ s = 62 ∨ s = 63 by omega) with rfl | rfl | rfl | rfl | rfl | rfl | rfl | rfl | rfl | rfl | rfl | rfl | rfl | rfl | rfl | rfl
  · exact ev48
  · exact ev49
  · exact ev50
  · exact ev51
  · exact ev52
  · exact ev53
  · exact ev54
  · exact ev55
  · exact ev56
  · exact ev57
  · exact ev58
  · exact ev59
  · exact ev60
  · exact ev61
  · exact ev62
  · exact ev63
theorem evs4 : ∀ s, 64 ≤ s → s < 80 → T s 11 := fun s h1 h2 => by
  rcases (show s = 64 ∨ s = 65 ∨ s = 66 ∨ s = 67 ∨ s = 68 ∨ s = 69 ∨ s = 70 ∨ s = 71 ∨ s = 72 ∨ s = 73 ∨ s = 74 ∨ s = 75 ∨ s = 76 ∨ s = 77 ∨ s = 78 ∨ s = 79 by omega) with rfl | rfl | rfl | rfl | rfl | rfl | rfl | rfl | rfl | rfl | rfl | rfl | rfl | rfl | rfl | rfl
  · exact ev64
  · exact ev65
  · exact ev66
  · exact ev67
  · exact ev68
  · exact ev69
  · exact ev70
  · exact ev71
  · exact ev72
  · exact ev73
  · exact ev74
  · exact ev75
  · exact ev76
  · exact ev77
  · exact ev78
  · exact ev79
theorem evs5 : ∀ s, 80 ≤ s → s < 96 → T s 11 := fun s h1 h2 => by
  rcases (show s = 80 ∨ s = 81 ∨ s = 82 ∨ s = 83 ∨ s = 84 ∨ s = 85 ∨ s = 86 ∨ s = 87 ∨ s = 88 ∨ s = 89 ∨ s = 90 ∨ s = 91 ∨ s = 92 ∨ s = 93 ∨ s = 94 ∨ s = 95 by omega) with rfl | rfl | rfl | rfl | rfl | rfl | rfl | rfl | rfl | rfl | rfl | rfl | rfl | rfl | rfl | rfl
  · exact ev80
  · exact ev81
  · exact ev82
  · exact ev83
  · exact ev84
  · exact ev85
  · exact ev86
  · exact ev87
  · exact ev88
  · exact ev89
  · exact ev90
  · exact ev91
  · exact ev92
  · exact ev93
  · exact ev94
  · exact ev95
theorem evs6 : ∀ s, 96 ≤ s → s < 112 → T s 11 := fun s h1 h2 => by
  rcases (show s = 96 ∨ s = 97 ∨ s = 98 ∨ s = 99 ∨ s = 100 ∨ s = 101 ∨ s = 102 ∨ s = 103 ∨ s = 104 ∨ s = 105 ∨ s = 106 ∨ s = 107 ∨ s = 108 ∨ s = 109 ∨ s = 110 ∨ s = 111 by omega) with rfl | rfl | rfl | rfl | rfl | rfl | rfl | rfl | rfl | rfl | rfl | rfl | rfl | rfl | rfl | rfl
  · exact ev96
  · exact ev97
  · exact ev98
  · exact ev99
  · exact ev100
  · exact ev101
  · exact ev102
  · exact ev103
  · exact ev104
  · exact ev105
  · exact ev106
  · exact ev107
  · exact ev108
  · exact ev109
  · exact ev110
  · exact ev111
theorem evs7 : ∀ s, 112 ≤ s → s < 128 → T s 11 := fun s h1 h2 => by
  rcases (show s = 112 ∨ s = 113 ∨ s = 114 ∨ s = 115 ∨ s = 116 ∨ s = 117 ∨ s = 118 ∨ s = 119 ∨ s = 120 ∨ s = 121 ∨ s = 122 ∨ s = 123 ∨ s = 124 ∨ s = 125 ∨ s = 126 ∨ s = 127 by omega) with rfl | rfl | rfl | rfl | rfl | rfl | rfl | rfl | rfl | rfl | rfl | rfl | rfl | rfl | rfl | rfl
  · exact ev112
  · exact ev113
  · exact ev114
  · exact ev115
  · exact ev116
  · exact ev117
  · exact ev118
  · exact ev119
  · exact ev120
  · exact ev121
  · exact ev122
  · exact ev123
  · exact ev124
  · exact ev125
  · exact ev126
  · exact ev127
theorem evs8 : ∀ s, 128 ≤ s → s < 144 → T s 11 := fun s h1 h2 => by
  rcases (show s = 128 ∨ s = 129 ∨ s = 130 ∨ s = 131 ∨ s = 132 ∨ s = 133 ∨ s = 134 ∨ s = 135 ∨ s = 136 ∨ s = 137 ∨ s = 138 ∨ s = 139 ∨ s = 140 ∨ s = 141 ∨ s = 142 ∨ s = 143 by omega) with rfl | rfl | rfl | rfl | rfl | rfl | rfl | rfl | rfl | rfl | rfl | rfl | rfl | rfl | rfl | rfl
  · exact ev128
  · exact ev129
  · exact ev130
  · exact ev131
  · exact ev132
  · exact ev133
  · exact ev134
  · exact ev135
  · exact ev136
  · exact ev137
  · exact ev138
  · exact ev139
  · exact ev140
  · exact ev141
  · exact ev142
  · exact ev143
theorem evs9 : ∀ s, 144 ≤ s → s < 160 → T s 11 := fun s h1 h2 => by
  rcases (show s = 144 ∨ s = 145 ∨ s = 146 ∨ s = 147 ∨ s = 148 ∨ s = 149 ∨ s = 150 ∨ s = 151 ∨ s = 152 ∨ s = 153 ∨ s = 154 ∨ s = 155 ∨ s = 156 ∨ s = 157 ∨ s = 158 ∨ s = 159 by omega) with rfl | rfl | rfl | rfl | rfl | rfl | rfl | rfl | rfl | rfl | rfl | rfl | rfl | rfl | rfl | rfl
  · exact ev144
  · exact ev145
  · exact ev146
  · exact ev147
  · exact ev148
  · exact ev149
  · exact ev150
  · exact ev151
  · exact ev152
  · exact ev153
  · exact ev154
  · exact ev155
  · exact ev156
  · exact ev157
  · exact ev158
  · exact ev159
theorem evs10 : ∀ s, 160 ≤ s → s < 176 → T s 11 := fun s h1 h2 => by
  rcases (show s = 160 ∨ s = 161 ∨ s = 162 ∨ s = 163 ∨ s = 164 ∨ s = 165 ∨ s = 166 ∨ s = 167 ∨ s = 168 ∨ s = 169 ∨ s = 170 ∨ s = 171 ∨ s = 172 ∨ s = 173 ∨ s = 174 ∨ s = 175 by omega) with rfl | rfl | rfl | rfl | rfl | rfl | rfl | rfl | rfl | rfl | rfl | rfl | rfl | rfl | rfl | rfl
  · exact ev160
  · exact ev161
  · exact ev162
  · exact ev163
  · exact ev164
  · exact ev165
  · exact ev166
  · exact ev167
  · exact ev168
  · exact ev169
  · exact ev170
  · exact ev171
  · exact ev172
  · exact ev173
  · exact ev174
  · exact ev175
theorem evs11 : ∀ s, 176 ≤ s → s < 192 → T s 11 := fun s h1 h2 => by
  rcases (show s = 176 ∨ s = 177 ∨ s = 178 ∨ s = 179 ∨ s = 180 ∨ s = 181 ∨ s = 182 ∨ s = 183 ∨ s = 184 ∨ s = 185 ∨ s = 186 ∨ s = 187 ∨ s = 188 ∨ s = 189 ∨ s = 190 ∨ s = 191 by omega) with rfl | rfl | rfl | rfl | rfl | rfl | rfl | rfl | rfl | rfl | rfl | rfl | rfl | rfl | rfl | rfl
  · exact ev176
  · exact ev177
  · exact ev178
  · exact ev179
  · exact ev180
  · exact ev181
  · exact ev182
  · exact ev183
  · exact ev184
  · exact ev185
  · exact ev186
  · exact ev187
  · exact ev188
  · exact ev189
  · exact ev190
  · exact ev191
theorem evs12 : ∀ s, 192 ≤ s → s < 208 → T s 11 := fun s h1 h2 => by
  rcases (show s = 192 ∨ s = 193 ∨ s = 194 ∨ s = 195 ∨ s = 196 ∨ s = 197 ∨ s = 198 ∨ s = 199 ∨ s = 200 ∨ s = 201 ∨ s = 202 ∨ s = 203 ∨ s = 204 ∨ s = 205 ∨ s = 206 ∨ s = 207 by omega) with rfl | rfl | rfl | rfl | rfl | rfl | rfl | rfl | rfl | rfl | rfl | rfl | rfl | rfl | rfl | rfl
  · exact ev192
  · exact ev193
  · exact ev194
  · exact ev195
  · exact ev196
  · exact ev197
  · exact ev198
  · exact ev199
  · exact ev200
  · exact ev201
  · exact ev202
  · exact ev203
  · exact ev204
  · exact ev205
  · exact ev206
  · exact ev207
theorem evs13 : ∀ s, 208 ≤ s → s < 224 → T s 11 := fun s h1 h2 => by
  rcases (show s = 208 ∨ s = 209 ∨ s = 210 ∨ s = 211 ∨ s = 212 ∨ s = 213 ∨ s = 214 ∨ s = 215 ∨ s = 216 ∨ s = 217 ∨ s = 218 ∨ s = 219 ∨ s = 220 ∨ s = 221 ∨ s = 222 ∨ s = 223 by omega) with rfl | rfl | rfl | rfl | rfl | rfl | rfl | rfl | rfl | rfl | rfl | rfl | rfl | rfl | rfl | rfl
  · exact ev208
  · exact ev209
  · exact ev210
  · exact ev211
  · exact ev212
  · exact ev213
  · exact ev214
  · exact ev215
  · exact ev216
  · exact ev217
  · exact ev218
  · exact ev219
  · exact ev220
  · exact ev221
  · exact ev222
  · exact ev223
theorem evs14 : ∀ s, 224 ≤ s → s < 240 → T s 11 := fun s h1 h2 => by
  rcases (show s = 224 ∨ s = 225 ∨ s = 226 ∨ s = 227 ∨ s = 228 ∨ s = 229 ∨ s = 230 ∨ s = 231 ∨ s = 232 ∨ s = 233 ∨ s = 234 ∨ s = 235 ∨ s = 236 ∨ s = 237 ∨ s = 238 ∨ s = 239 by omega) with rfl | rfl | rfl | rfl | rfl | rfl | rfl | rfl | rfl | rfl | rfl | rfl | rfl | rfl | rfl | rfl
  · exact ev224
  · exact ev225
  · exact ev226
  · exact ev227
  · exact ev228
  · exact ev229
  · exact ev230
  · exact ev231
  · exact ev232
  · exact ev233
  · exact ev234
  · exact ev235
  · exact ev236
  · exact ev237
  · exact ev238
  · exact ev239
theorem evs15 : ∀ s, 240 ≤ s → s < 256 → T s 11 := fun s h1 h2 => by
  rcases (show s = 240 ∨ s = 241 ∨ s = 242 ∨ s = 243 ∨ s = 244 ∨ s = 245 ∨ s = 246 ∨ s = 247 ∨ s = 248 ∨ s = 249 ∨ s = 250 ∨ s = 251 ∨ s = 252 ∨ s = 253 ∨ s = 254 ∨ s = 255 by omega) with rfl | rfl | rfl | rfl | rfl | rfl | rfl | rfl | rfl | rfl | rfl | rfl | rfl | rfl | rfl | rfl
  · exact ev240
  · exact ev241
  · exact ev242
  · exact ev243
  · exact ev244
  · exact ev245
  · exact ev246
  · exact ev247
  · exact ev248
  · exact ev249
  · exact ev250
  · exact ev251
  · exact ev252
  · exact ev253
  · exact ev254
  · exact ev255
theorem ev_all : ∀ s, s < 256 → T s 11 := fun s h => by
  by_cases h0 : s < 16
  · exact evs0 s (by omega) h0
  by_cases h1 : s < 32
  · exact evs1 s (by omega) h1
  by_cases h2 : s < 48
  · exact evs2 s (by omega) h2
  by_cases h3 : s < 64
  · exact evs3 s (by omega) h3
  by_cases h4 : s < 80
  · exact evs4 s (by omega) h4
  by_cases h5 : s < 96
  · exact evs5 s (by omega) h5
  by_cases h6 : s < 112
  · exact evs6 s (by omega) h6
  by_cases h7 : s < 128
  · exact evs7 s (by omega) h7
  by_cases h8 : s < 144
  · exact evs8 s (by omega) h8
  by_cases h9 : s < 160
  · exact evs9 s (by omega) h9
  by_cases h10 : s < 176
  · exact evs10 s (by omega) h10
  by_cases h11 : s < 192
  · exact evs11 s (by omega) h11
  by_cases h12 : s < 208
  · exact evs12 s (by omega) h12
  by_cases h13 : s < 224
  · exact evs13 s (by omega) h13
  by_cases h14 : s < 240
  · exact evs14 s (by omega) h14
  exact evs15 s (by omega) h
theorem noCol : Jn.NoCol := noCol_of ev_all
end Hx

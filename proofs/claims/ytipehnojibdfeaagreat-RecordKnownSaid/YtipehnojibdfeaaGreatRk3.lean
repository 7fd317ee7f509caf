/- Parts of the proof, as they were built: Hash4. -/
import Derived.Test.YtipehnojibdfeaaGreatRk1

/- Pieces of hash.digest at 32 bits: one block: its words, the schedule, the rounds, the sum. -/
namespace Go.Proofs.YtipehnojibdfeaaGreat
open Go Go.Proofs Go.RowKit

set_option maxRecDepth 100000 in
set_option maxHeartbeats 4000000 in
theorem dg32_word (w : World) (B mB k n4 cc : Nat) (hn4 : 4 ≤ n4) (ad : Addr) (m D : Nat → Int) (hk : k < 16) (hB : B ≤ mB) (hadB : ad.block < B) (hm : w.rowIs mB 96 64 (fun i => .int .u32 (upd m k 0 i))) (hD : ∀ q, q < 4 → w.cell? (ad.add q) = some (.int .u8 (D (k * 4 + q)))) (hDr : ∀ i, 0 ≤ D i ∧ D i < 256)
    {c0 c1 c2 c3 c4 c5 c6 c7 c8 c9 c10 c11 c12 c13 c14 c17 i18 c19 c20 c21 c22 c23 c24 c25 c26 c27 c28 c29 c30 c31 c32 c33 c34 c35 c36 c37 c38 c39 c40 c41 c42 c43 c44 c45 c46 c47 c48 c49 c50 c51 c52 c53 c54 c55 c56 c57 c58 c59 c60 c61 c62 c63 c64 c65 c66 c67 c68 c69 c70 c71 c72 c73 c74 c75 c76 c77 c78 c79 c80 c81 c82 c83 c84 c85 c86 c87 c88 c89 c90 c91 c92 c93 c94 c95 c96 c97 c98 c99 c100 c101 c102 c103 c104 c105 c106 c107 c108 c109 c110 c111 c112 c113 c114 c115 c116 c117 i121 i122 i123 i124 i125 i126 i127 i128 i129 i130 i131 i132 i133 i134 i135 c136 c137 c138 c139 c140 c141 c142 c143 c144 c145 c146 c147 c148 c149 c150 c151 c152 c153 c154 c155 c156 c157 c158 c159 c160 c161 c162 c163 c164 c165 c166 c167 c168 c169 c170 c171 c172 c173 c174 c175 c176 c177 c178 c179 c180 c181 c182 c183 c184 c185 c186 c187 c188 c189 c190 c191 c192 c193 c194 c195 c196 c197 c198 c199 c200 c201 c202 c203 c204 c205 c206 c207 c208 c209 c210 c211 c212 c213 c214 c215 c216 c217 c218 c219 c220 c221 c222 c223 c224 c225 c226 c227 c228 c229 c230 c231 c232 c233 c234 c235 c236 c237 c238 c239 c240 c241 c242 c243 c244 c245 c246 c247 c248 c249 c250 c251 c252 c253 c254 c255 c256 c257 c258 c259 c260 c261 c262 c263 c264 c265 c266 c267 c268 c269 c270 c271 c272 c273 c274 c275 c276 c277 c278 c279 c280 c281 c282 c283 c284 c285 c286 c287 c288 c289 c290 c291 c292 c293 c294 c295 c296 c297 c298 c299 c300 c301 : Value}
    (Q : Exit → Act → World → Prop) (hQ : ∀ (u18 u120 u121 u122 u123 u124 u125 u126 u127 u128 u129 u130 u131 u132 u133 u134 u135 : Value) (w' : World), w'.rowIs mB 96 64 (fun i => .int .u32 (upd m k (ldW32 D k 4) i)) ∧ w.grownBy w' (some mB) → Q .normal ⟨(c0 :: c1 :: c2 :: c3 :: c4 :: c5 :: c6 :: c7 :: c8 :: c9 :: c10 :: c11 :: c12 :: c13 :: c14 :: .slice (some ⟨mB, 0, none⟩) 64 64 :: .int .i64 k :: c17 :: u18 :: c19 :: c20 :: c21 :: c22 :: c23 :: c24 :: c25 :: c26 :: c27 :: c28 :: c29 :: c30 :: c31 :: c32 :: c33 :: c34 :: c35 :: c36 :: c37 :: c38 :: c39 :: c40 :: c41 :: c42 :: c43 :: c44 :: c45 :: c46 :: c47 :: c48 :: c49 :: c50 :: c51 :: c52 :: c53 :: c54 :: c55 :: c56 :: c57 :: c58 :: c59 :: c60 :: c61 :: c62 :: c63 :: c64 :: c65 :: c66 :: c67 :: c68 :: c69 :: c70 :: c71 :: c72 :: c73 :: c74 :: c75 :: c76 :: c77 :: c78 :: c79 :: c80 :: c81 :: c82 :: c83 :: c84 :: c85 :: c86 :: c87 :: c88 :: c89 :: c90 :: c91 :: c92 :: c93 :: c94 :: c95 :: c96 :: c97 :: c98 :: c99 :: c100 :: c101 :: c102 :: c103 :: c104 :: c105 :: c106 :: c107 :: c108 :: c109 :: c110 :: c111 :: c112 :: c113 :: c114 :: c115 :: c116 :: c117 :: .slice (some ad) n4 cc :: .int .i64 4 :: u120 :: u121 :: u122 :: u123 :: u124 :: u125 :: u126 :: u127 :: u128 :: u129 :: u130 :: u131 :: u132 :: u133 :: u134 :: u135 :: c136 :: c137 :: c138 :: c139 :: c140 :: c141 :: c142 :: c143 :: c144 :: c145 :: c146 :: c147 :: c148 :: c149 :: c150 :: c151 :: c152 :: c153 :: c154 :: c155 :: c156 :: c157 :: c158 :: c159 :: c160 :: c161 :: c162 :: c163 :: c164 :: c165 :: c166 :: c167 :: c168 :: c169 :: c170 :: c171 :: c172 :: c173 :: c174 :: c175 :: c176 :: c177 :: c178 :: c179 :: c180 :: c181 :: c182 :: c183 :: c184 :: c185 :: c186 :: c187 :: c188 :: c189 :: c190 :: c191 :: c192 :: c193 :: c194 :: c195 :: c196 :: c197 :: c198 :: c199 :: c200 :: c201 :: c202 :: c203 :: c204 :: c205 :: c206 :: c207 :: c208 :: c209 :: c210 :: c211 :: c212 :: c213 :: c214 :: c215 :: c216 :: c217 :: c218 :: c219 :: c220 :: c221 :: c222 :: c223 :: c224 :: c225 :: c226 :: c227 :: c228 :: c229 :: c230 :: c231 :: c232 :: c233 :: c234 :: c235 :: c236 :: c237 :: c238 :: c239 :: c240 :: c241 :: c242 :: c243 :: c244 :: c245 :: c246 :: c247 :: c248 :: c249 :: c250 :: c251 :: c252 :: c253 :: c254 :: c255 :: c256 :: c257 :: c258 :: c259 :: c260 :: c261 :: c262 :: c263 :: c264 :: c265 :: c266 :: c267 :: c268 :: c269 :: c270 :: c271 :: c272 :: c273 :: c274 :: c275 :: c276 :: c277 :: c278 :: c279 :: c280 :: c281 :: c282 :: c283 :: c284 :: c285 :: c286 :: c287 :: c288 :: c289 :: c290 :: c291 :: c292 :: c293 :: c294 :: c295 :: c296 :: c297 :: c298 :: c299 :: c300 :: c301 :: []).toArray, []⟩ w') :
    (codeBlock 12 Tryz.f110).wp Tryz.prog Q ⟨(c0 :: c1 :: c2 :: c3 :: c4 :: c5 :: c6 :: c7 :: c8 :: c9 :: c10 :: c11 :: c12 :: c13 :: c14 :: .slice (some ⟨mB, 0, none⟩) 64 64 :: .int .i64 k :: c17 :: i18 :: c19 :: c20 :: c21 :: c22 :: c23 :: c24 :: c25 :: c26 :: c27 :: c28 :: c29 :: c30 :: c31 :: c32 :: c33 :: c34 :: c35 :: c36 :: c37 :: c38 :: c39 :: c40 :: c41 :: c42 :: c43 :: c44 :: c45 :: c46 :: c47 :: c48 :: c49 :: c50 :: c51 :: c52 :: c53 :: c54 :: c55 :: c56 :: c57 :: c58 :: c59 :: c60 :: c61 :: c62 :: c63 :: c64 :: c65 :: c66 :: c67 :: c68 :: c69 :: c70 :: c71 :: c72 :: c73 :: c74 :: c75 :: c76 :: c77 :: c78 :: c79 :: c80 :: c81 :: c82 :: c83 :: c84 :: c85 :: c86 :: c87 :: c88 :: c89 :: c90 :: c91 :: c92 :: c93 :: c94 :: c95 :: c96 :: c97 :: c98 :: c99 :: c100 :: c101 :: c102 :: c103 :: c104 :: c105 :: c106 :: c107 :: c108 :: c109 :: c110 :: c111 :: c112 :: c113 :: c114 :: c115 :: c116 :: c117 :: .slice (some ad) n4 cc :: .int .i64 4 :: .int .i64 0 :: i121 :: i122 :: i123 :: i124 :: i125 :: i126 :: i127 :: i128 :: i129 :: i130 :: i131 :: i132 :: i133 :: i134 :: i135 :: c136 :: c137 :: c138 :: c139 :: c140 :: c141 :: c142 :: c143 :: c144 :: c145 :: c146 :: c147 :: c148 :: c149 :: c150 :: c151 :: c152 :: c153 :: c154 :: c155 :: c156 :: c157 :: c158 :: c159 :: c160 :: c161 :: c162 :: c163 :: c164 :: c165 :: c166 :: c167 :: c168 :: c169 :: c170 :: c171 :: c172 :: c173 :: c174 :: c175 :: c176 :: c177 :: c178 :: c179 :: c180 :: c181 :: c182 :: c183 :: c184 :: c185 :: c186 :: c187 :: c188 :: c189 :: c190 :: c191 :: c192 :: c193 :: c194 :: c195 :: c196 :: c197 :: c198 :: c199 :: c200 :: c201 :: c202 :: c203 :: c204 :: c205 :: c206 :: c207 :: c208 :: c209 :: c210 :: c211 :: c212 :: c213 :: c214 :: c215 :: c216 :: c217 :: c218 :: c219 :: c220 :: c221 :: c222 :: c223 :: c224 :: c225 :: c226 :: c227 :: c228 :: c229 :: c230 :: c231 :: c232 :: c233 :: c234 :: c235 :: c236 :: c237 :: c238 :: c239 :: c240 :: c241 :: c242 :: c243 :: c244 :: c245 :: c246 :: c247 :: c248 :: c249 :: c250 :: c251 :: c252 :: c253 :: c254 :: c255 :: c256 :: c257 :: c258 :: c259 :: c260 :: c261 :: c262 :: c263 :: c264 :: c265 :: c266 :: c267 :: c268 :: c269 :: c270 :: c271 :: c272 :: c273 :: c274 :: c275 :: c276 :: c277 :: c278 :: c279 :: c280 :: c281 :: c282 :: c283 :: c284 :: c285 :: c286 :: c287 :: c288 :: c289 :: c290 :: c291 :: c292 :: c293 :: c294 :: c295 :: c296 :: c297 :: c298 :: c299 :: c300 :: c301 :: []).toArray, []⟩ w := by
  conv => arg 2; whnf
  go_wp2_with fail
  go_loopw [120] (fun i wr => ∃ q : Nat, q ≤ 4 ∧ i = .int .i64 q ∧ wr.rowIs mB 96 64 (fun i => .int .u32 (upd m k (ldW32 D k q) i)) ∧ w.grownBy wr (some mB)) (fun i _ => 4 - (intOf i).toNat)
  case atStart => exact ⟨0, by omega, rfl, by simpa [ldW32] using hm, grownBy_refl _ _⟩
  case round =>
    have hml := hm.lt
    clear hm
    obtain ⟨q, hq, rfl, hM, hb⟩ := hrel
    by_cases hq4 : q < 4
    · have hfz := hM.frozen k
      have hmc : wr.cell? ⟨mB, k, none⟩ = some (.int .u32 (ldW32 D k q)) := by have := hM.cell (i := k) (by omega); simpa [upd] using this
      have hcd : wr.cell? (ad.add q) = some (.int .u8 (D (k * 4 + q))) := (World.cell?_of_block (hb.block _ (by rw [block_of_add]; omega) (by rw [block_of_add]; simp; omega))).trans (hD q hq4)
      have hd := hDr (k * 4 + q)
      have hd1 := hd.1
      have hd2 := hd.2
      clear hd hD hDr
      go_wp2
      go_roundw
      case rel => exact ⟨q + 1, by omega, by go_num, (hM.set k _).congr (fun i _ => by by_cases hi : i = k <;> simp [hi, upd, ldW32]), grownBy_set hb _⟩
      case measure => simp [intOf]; omega
    · obtain rfl : q = 4 := by omega
      go_wp2
      exact ⟨hM, hb⟩

set_option maxRecDepth 100000 in
set_option maxHeartbeats 4000000 in
theorem dg32_words (w : World) (B mB L cA : Nat) (ad : Addr) (m D : Nat → Int) (hB : B ≤ mB) (hL : 64 ≤ L) (hLc : L ≤ cA) (hLm : L ≤ 140737488351332) (hadB : ad.block < B) (hm : w.rowIs mB 96 64 (fun i => .int .u32 (m i))) (hD : ∀ q, q < 64 → w.cell? (ad.add q) = some (.int .u8 (D q))) (hDr : ∀ i, 0 ≤ D i ∧ D i < 256)
    {c0 c1 c2 c3 c4 c6 c7 c9 c10 c11 c12 c13 c14 i16 c17 i18 c19 c20 c21 c22 c23 c24 c25 c26 c27 c28 c29 c30 c31 c32 c33 c34 c35 c36 c37 c38 c39 c40 c41 c42 c43 c44 c45 c46 c47 c48 c49 c50 c51 c52 c53 c54 c55 c56 c57 c58 c59 c60 c61 c62 c63 c64 c65 c66 c67 c68 c69 c70 c71 c72 c73 c74 c75 c76 c77 c78 c79 c80 c81 c82 c83 c84 c85 c86 c87 c88 c89 c90 c91 c92 c93 c94 c95 c96 c97 c98 c99 c100 c101 c102 c103 i105 i106 i107 i108 i109 i110 i111 i112 i113 i114 i115 i116 i117 i118 i119 i120 i121 i122 i123 i124 i125 i126 i127 i128 i129 i130 i131 i132 i133 i134 i135 i136 c137 c138 c139 c140 c141 c142 c143 c144 c145 c146 c147 c148 c149 c150 c151 c152 c153 c154 c155 c156 c157 c158 c159 c160 c161 c162 c163 c164 c165 c166 c167 c168 c169 c170 c171 c172 c173 c174 c175 c176 c177 c178 c179 c180 c181 c182 c183 c184 c185 c186 c187 c188 c189 c190 c191 c192 c193 c194 c195 c196 c197 c198 c199 c200 c201 c202 c203 c204 c205 c206 c207 c208 c209 c210 c211 c212 c213 c214 c215 c216 c217 c218 c219 c220 c221 c222 c223 c224 c225 c226 c227 c228 c229 c230 c231 c232 c233 c234 c235 c236 c237 c238 c239 c240 c241 c242 c243 c244 c245 c246 c247 c248 c249 c250 c251 c252 c253 c254 c255 c256 c257 c258 c259 c260 c261 c262 c263 c264 c265 c266 c267 c268 c269 c270 c271 c272 c273 c274 c275 c276 c277 c278 c279 c280 c281 c282 c283 c284 c285 c286 c287 c288 c289 c290 c291 c292 c293 c294 c295 c296 c297 c298 c299 c300 c301 : Value}
    (Q : Exit → Act → World → Prop) (hQ : ∀ (u16 u18 u104 u105 u106 u107 u108 u109 u110 u111 u112 u113 u114 u115 u116 u117 u118 u119 u120 u121 u122 u123 u124 u125 u126 u127 u128 u129 u130 u131 u132 u133 u134 u135 u136 : Value) (w' : World), w'.rowIs mB 96 64 (fun i => .int .u32 (ld32 m D 16 i)) ∧ w.grownBy w' (some mB) → Q .normal ⟨(c0 :: c1 :: c2 :: c3 :: c4 :: .int .i64 4 :: c6 :: c7 :: .slice (some ad) L cA :: c9 :: c10 :: c11 :: c12 :: c13 :: c14 :: .slice (some ⟨mB, 0, none⟩) 64 64 :: u16 :: c17 :: u18 :: c19 :: c20 :: c21 :: c22 :: c23 :: c24 :: c25 :: c26 :: c27 :: c28 :: c29 :: c30 :: c31 :: c32 :: c33 :: c34 :: c35 :: c36 :: c37 :: c38 :: c39 :: c40 :: c41 :: c42 :: c43 :: c44 :: c45 :: c46 :: c47 :: c48 :: c49 :: c50 :: c51 :: c52 :: c53 :: c54 :: c55 :: c56 :: c57 :: c58 :: c59 :: c60 :: c61 :: c62 :: c63 :: c64 :: c65 :: c66 :: c67 :: c68 :: c69 :: c70 :: c71 :: c72 :: c73 :: c74 :: c75 :: c76 :: c77 :: c78 :: c79 :: c80 :: c81 :: c82 :: c83 :: c84 :: c85 :: c86 :: c87 :: c88 :: c89 :: c90 :: c91 :: c92 :: c93 :: c94 :: c95 :: c96 :: c97 :: c98 :: c99 :: c100 :: c101 :: c102 :: c103 :: u104 :: u105 :: u106 :: u107 :: u108 :: u109 :: u110 :: u111 :: u112 :: u113 :: u114 :: u115 :: u116 :: u117 :: u118 :: u119 :: u120 :: u121 :: u122 :: u123 :: u124 :: u125 :: u126 :: u127 :: u128 :: u129 :: u130 :: u131 :: u132 :: u133 :: u134 :: u135 :: u136 :: c137 :: c138 :: c139 :: c140 :: c141 :: c142 :: c143 :: c144 :: c145 :: c146 :: c147 :: c148 :: c149 :: c150 :: c151 :: c152 :: c153 :: c154 :: c155 :: c156 :: c157 :: c158 :: c159 :: c160 :: c161 :: c162 :: c163 :: c164 :: c165 :: c166 :: c167 :: c168 :: c169 :: c170 :: c171 :: c172 :: c173 :: c174 :: c175 :: c176 :: c177 :: c178 :: c179 :: c180 :: c181 :: c182 :: c183 :: c184 :: c185 :: c186 :: c187 :: c188 :: c189 :: c190 :: c191 :: c192 :: c193 :: c194 :: c195 :: c196 :: c197 :: c198 :: c199 :: c200 :: c201 :: c202 :: c203 :: c204 :: c205 :: c206 :: c207 :: c208 :: c209 :: c210 :: c211 :: c212 :: c213 :: c214 :: c215 :: c216 :: c217 :: c218 :: c219 :: c220 :: c221 :: c222 :: c223 :: c224 :: c225 :: c226 :: c227 :: c228 :: c229 :: c230 :: c231 :: c232 :: c233 :: c234 :: c235 :: c236 :: c237 :: c238 :: c239 :: c240 :: c241 :: c242 :: c243 :: c244 :: c245 :: c246 :: c247 :: c248 :: c249 :: c250 :: c251 :: c252 :: c253 :: c254 :: c255 :: c256 :: c257 :: c258 :: c259 :: c260 :: c261 :: c262 :: c263 :: c264 :: c265 :: c266 :: c267 :: c268 :: c269 :: c270 :: c271 :: c272 :: c273 :: c274 :: c275 :: c276 :: c277 :: c278 :: c279 :: c280 :: c281 :: c282 :: c283 :: c284 :: c285 :: c286 :: c287 :: c288 :: c289 :: c290 :: c291 :: c292 :: c293 :: c294 :: c295 :: c296 :: c297 :: c298 :: c299 :: c300 :: c301 :: []).toArray, []⟩ w') :
    (codeBlock 10 Tryz.f110).wp Tryz.prog Q ⟨(c0 :: c1 :: c2 :: c3 :: c4 :: .int .i64 4 :: c6 :: c7 :: .slice (some ad) L cA :: c9 :: c10 :: c11 :: c12 :: c13 :: c14 :: .slice (some ⟨mB, 0, none⟩) 64 64 :: i16 :: c17 :: i18 :: c19 :: c20 :: c21 :: c22 :: c23 :: c24 :: c25 :: c26 :: c27 :: c28 :: c29 :: c30 :: c31 :: c32 :: c33 :: c34 :: c35 :: c36 :: c37 :: c38 :: c39 :: c40 :: c41 :: c42 :: c43 :: c44 :: c45 :: c46 :: c47 :: c48 :: c49 :: c50 :: c51 :: c52 :: c53 :: c54 :: c55 :: c56 :: c57 :: c58 :: c59 :: c60 :: c61 :: c62 :: c63 :: c64 :: c65 :: c66 :: c67 :: c68 :: c69 :: c70 :: c71 :: c72 :: c73 :: c74 :: c75 :: c76 :: c77 :: c78 :: c79 :: c80 :: c81 :: c82 :: c83 :: c84 :: c85 :: c86 :: c87 :: c88 :: c89 :: c90 :: c91 :: c92 :: c93 :: c94 :: c95 :: c96 :: c97 :: c98 :: c99 :: c100 :: c101 :: c102 :: c103 :: .int .i64 0 :: i105 :: i106 :: i107 :: i108 :: i109 :: i110 :: i111 :: i112 :: i113 :: i114 :: i115 :: i116 :: i117 :: i118 :: i119 :: i120 :: i121 :: i122 :: i123 :: i124 :: i125 :: i126 :: i127 :: i128 :: i129 :: i130 :: i131 :: i132 :: i133 :: i134 :: i135 :: i136 :: c137 :: c138 :: c139 :: c140 :: c141 :: c142 :: c143 :: c144 :: c145 :: c146 :: c147 :: c148 :: c149 :: c150 :: c151 :: c152 :: c153 :: c154 :: c155 :: c156 :: c157 :: c158 :: c159 :: c160 :: c161 :: c162 :: c163 :: c164 :: c165 :: c166 :: c167 :: c168 :: c169 :: c170 :: c171 :: c172 :: c173 :: c174 :: c175 :: c176 :: c177 :: c178 :: c179 :: c180 :: c181 :: c182 :: c183 :: c184 :: c185 :: c186 :: c187 :: c188 :: c189 :: c190 :: c191 :: c192 :: c193 :: c194 :: c195 :: c196 :: c197 :: c198 :: c199 :: c200 :: c201 :: c202 :: c203 :: c204 :: c205 :: c206 :: c207 :: c208 :: c209 :: c210 :: c211 :: c212 :: c213 :: c214 :: c215 :: c216 :: c217 :: c218 :: c219 :: c220 :: c221 :: c222 :: c223 :: c224 :: c225 :: c226 :: c227 :: c228 :: c229 :: c230 :: c231 :: c232 :: c233 :: c234 :: c235 :: c236 :: c237 :: c238 :: c239 :: c240 :: c241 :: c242 :: c243 :: c244 :: c245 :: c246 :: c247 :: c248 :: c249 :: c250 :: c251 :: c252 :: c253 :: c254 :: c255 :: c256 :: c257 :: c258 :: c259 :: c260 :: c261 :: c262 :: c263 :: c264 :: c265 :: c266 :: c267 :: c268 :: c269 :: c270 :: c271 :: c272 :: c273 :: c274 :: c275 :: c276 :: c277 :: c278 :: c279 :: c280 :: c281 :: c282 :: c283 :: c284 :: c285 :: c286 :: c287 :: c288 :: c289 :: c290 :: c291 :: c292 :: c293 :: c294 :: c295 :: c296 :: c297 :: c298 :: c299 :: c300 :: c301 :: []).toArray, []⟩ w := by
  conv => arg 2; whnf
  have hml := hm.lt
  go_wp2_with fail
  go_loopw [104] (fun i wr => ∃ k : Nat, k ≤ 16 ∧ i = .int .i64 k ∧ wr.rowIs mB 96 64 (fun i => .int .u32 (ld32 m D k i)) ∧ w.grownBy wr (some mB)) (fun i _ => 16 - (intOf i).toNat)
  case atStart => exact ⟨0, by omega, rfl, hm, grownBy_refl _ _⟩
  case round =>
    clear hm
    obtain ⟨k, hk, rfl, hM, hb⟩ := hrel
    by_cases hk16 : k < 16
    · have hfz := hM.frozen k
      have hmc := hM.cell (i := k) (by omega)
      have hkd : decide ((k : Int) < 16) = true := by simp; omega
      have h44 : (k + 1) * 4 - k * 4 = 4 := by omega
      have hDk : ∀ q, q < 4 → (wr.setCell ⟨mB, k, none⟩ (.int .u32 0)).cell? ((ad.add (k * 4)).add q) = some (.int .u8 (D (k * 4 + q))) := by
        intro q hq
        rw [add_of_add, World.cell?_setCell_other _ _ _ _ (by intro e; have := congrArg Addr.block e; rw [block_of_add] at this; simp at this; omega)]
        exact (World.cell?_of_block (hb.block _ (by rw [block_of_add]; omega) (by rw [block_of_add]; simp; omega))).trans (hD _ (by omega))
      have HDk : Hid (∀ q, q < 4 → (wr.setCell ⟨mB, k, none⟩ (.int .u32 0)).cell? ((ad.add (k * 4)).add q) = some (.int .u8 (D (k * 4 + q)))) := hDk
      clear hDk
      go_upto_block 12 with (fail)
      refine dg32_word _ B mB k _ _ (by omega) _ (ld32 m D k) D hk16 hB (by rw [block_of_add]; exact hadB) ((hM.set k _).congr (fun i _ => by by_cases hi : i = k <;> simp [hi, upd])) HDk.out hDr _ ?_
      intros
      rename_i w1 h1
      obtain ⟨hM1, hb1⟩ := h1
      have hb2 : w.grownBy w1 (some mB) := grownBy_trans (grownBy_set hb _) hb1
      clear hb hb1 HDk hmc hfz
      go_wp2
      go_roundw
      case rel => exact ⟨k + 1, by omega, by go_num, hM1, hb2⟩
      case measure => simp [intOf]; omega
    · obtain rfl : k = 16 := by omega
      go_wp2
      exact ⟨hM, hb⟩

set_option maxRecDepth 100000 in
set_option maxHeartbeats 4000000 in
theorem dg32_sched (w : World) (B mB sh : Nat) (m : Nat → Int) (hB : B ≤ mB) (hshB : sh < B) (hsh0 : Blk w sh 158 #[.int .i64 32, .int .i64 64, .int .i64 2, .int .i64 13, .int .i64 22, .int .i64 6, .int .i64 11, .int .i64 25, .int .i64 7, .int .i64 18, .int .i64 3, .int .i64 17, .int .i64 19, .int .i64 10]) (hm : w.rowIs mB 96 64 (fun i => .int .u32 (m i)))
    {c0 c1 c3 c4 c5 c6 c7 c8 c9 c10 c11 c12 c13 c14 c16 c17 c18 c20 c21 c22 c23 c24 c25 c26 c27 c28 c29 c30 c31 c32 c33 c34 c35 c36 c37 c38 c39 c40 c41 c42 c43 c44 c45 c46 c47 c48 c49 c50 c51 c52 c53 c54 c55 c56 c57 c58 c59 c60 c61 c62 c63 c64 c65 c66 c67 c68 c69 c70 c71 c72 c73 c74 c75 c76 c77 c78 c79 c80 c81 c82 c83 c84 c85 c86 c87 c88 c89 c90 c91 c92 c93 c94 c95 c96 c97 c98 c99 c100 c101 c102 c103 c104 c105 c106 c107 c108 c109 c110 c111 c112 c113 c114 c115 c116 c117 c118 c119 c120 c121 c122 c123 c124 c125 c126 c127 c128 c129 c130 c131 c132 c133 c134 c135 c136 i137 i138 i139 i140 i141 i142 i143 i144 i145 i146 i147 i148 i149 i150 i151 i152 i153 i154 i155 i156 i157 i158 i159 i160 i161 i162 i163 i164 i165 i166 i167 i168 i169 i170 i171 i172 i173 i174 i175 i176 i177 i178 c179 c180 c181 c182 c183 c184 c185 c186 c187 c188 c189 c190 c191 c192 c193 c194 c195 c196 c197 c198 c199 c200 c201 c202 c203 c204 c205 c206 c207 c208 c209 c210 c211 c212 c213 c214 c215 c216 c217 c218 c219 c220 c221 c222 c223 c224 c225 c226 c227 c228 c229 c230 c231 c232 c233 c234 c235 c236 c237 c238 c239 c240 c241 c242 c243 c244 c245 c246 c247 c248 c249 c250 c251 c252 c253 c254 c255 c256 c257 c258 c259 c260 c261 c262 c263 c264 c265 c266 c267 c268 c269 c270 c271 c272 c273 c274 c275 c276 c277 c278 c279 c280 c281 c282 c283 c284 c285 c286 c287 c288 c289 c290 c291 c292 c293 c294 c295 c296 c297 c298 c299 c300 c301 : Value}
    (Q : Exit → Act → World → Prop) (hQ : ∀ (u19 u137 u138 u139 u140 u141 u142 u143 u144 u145 u146 u147 u148 u149 u150 u151 u152 u153 u154 u155 u156 u157 u158 u159 u160 u161 u162 u163 u164 u165 u166 u167 u168 u169 u170 u171 u172 u173 u174 u175 u176 u177 u178 : Value) (w' : World), w'.rowIs mB 96 64 (fun i => .int .u32 (sch32 m 48 i)) ∧ w.grownBy w' (some mB) → Q .normal ⟨(c0 :: c1 :: .pointer (some ⟨sh, 0, none⟩) :: c3 :: c4 :: c5 :: c6 :: c7 :: c8 :: c9 :: c10 :: c11 :: c12 :: c13 :: c14 :: .slice (some ⟨mB, 0, none⟩) 64 64 :: c16 :: c17 :: c18 :: u19 :: c20 :: c21 :: c22 :: c23 :: c24 :: c25 :: c26 :: c27 :: c28 :: c29 :: c30 :: c31 :: c32 :: c33 :: c34 :: c35 :: c36 :: c37 :: c38 :: c39 :: c40 :: c41 :: c42 :: c43 :: c44 :: c45 :: c46 :: c47 :: c48 :: c49 :: c50 :: c51 :: c52 :: c53 :: c54 :: c55 :: c56 :: c57 :: c58 :: c59 :: c60 :: c61 :: c62 :: c63 :: c64 :: c65 :: c66 :: c67 :: c68 :: c69 :: c70 :: c71 :: c72 :: c73 :: c74 :: c75 :: c76 :: c77 :: c78 :: c79 :: c80 :: c81 :: c82 :: c83 :: c84 :: c85 :: c86 :: c87 :: c88 :: c89 :: c90 :: c91 :: c92 :: c93 :: c94 :: c95 :: c96 :: c97 :: c98 :: c99 :: c100 :: c101 :: c102 :: c103 :: c104 :: c105 :: c106 :: c107 :: c108 :: c109 :: c110 :: c111 :: c112 :: c113 :: c114 :: c115 :: c116 :: c117 :: c118 :: c119 :: c120 :: c121 :: c122 :: c123 :: c124 :: c125 :: c126 :: c127 :: c128 :: c129 :: c130 :: c131 :: c132 :: c133 :: c134 :: c135 :: c136 :: u137 :: u138 :: u139 :: u140 :: u141 :: u142 :: u143 :: u144 :: u145 :: u146 :: u147 :: u148 :: u149 :: u150 :: u151 :: u152 :: u153 :: u154 :: u155 :: u156 :: u157 :: u158 :: u159 :: u160 :: u161 :: u162 :: u163 :: u164 :: u165 :: u166 :: u167 :: u168 :: u169 :: u170 :: u171 :: u172 :: u173 :: u174 :: u175 :: u176 :: u177 :: u178 :: c179 :: c180 :: c181 :: c182 :: c183 :: c184 :: c185 :: c186 :: c187 :: c188 :: c189 :: c190 :: c191 :: c192 :: c193 :: c194 :: c195 :: c196 :: c197 :: c198 :: c199 :: c200 :: c201 :: c202 :: c203 :: c204 :: c205 :: c206 :: c207 :: c208 :: c209 :: c210 :: c211 :: c212 :: c213 :: c214 :: c215 :: c216 :: c217 :: c218 :: c219 :: c220 :: c221 :: c222 :: c223 :: c224 :: c225 :: c226 :: c227 :: c228 :: c229 :: c230 :: c231 :: c232 :: c233 :: c234 :: c235 :: c236 :: c237 :: c238 :: c239 :: c240 :: c241 :: c242 :: c243 :: c244 :: c245 :: c246 :: c247 :: c248 :: c249 :: c250 :: c251 :: c252 :: c253 :: c254 :: c255 :: c256 :: c257 :: c258 :: c259 :: c260 :: c261 :: c262 :: c263 :: c264 :: c265 :: c266 :: c267 :: c268 :: c269 :: c270 :: c271 :: c272 :: c273 :: c274 :: c275 :: c276 :: c277 :: c278 :: c279 :: c280 :: c281 :: c282 :: c283 :: c284 :: c285 :: c286 :: c287 :: c288 :: c289 :: c290 :: c291 :: c292 :: c293 :: c294 :: c295 :: c296 :: c297 :: c298 :: c299 :: c300 :: c301 :: []).toArray, []⟩ w') :
    (codeBlock 14 Tryz.f110).wp Tryz.prog Q ⟨(c0 :: c1 :: .pointer (some ⟨sh, 0, none⟩) :: c3 :: c4 :: c5 :: c6 :: c7 :: c8 :: c9 :: c10 :: c11 :: c12 :: c13 :: c14 :: .slice (some ⟨mB, 0, none⟩) 64 64 :: c16 :: c17 :: c18 :: .int .i64 16 :: c20 :: c21 :: c22 :: c23 :: c24 :: c25 :: c26 :: c27 :: c28 :: c29 :: c30 :: c31 :: c32 :: c33 :: c34 :: c35 :: c36 :: c37 :: c38 :: c39 :: c40 :: c41 :: c42 :: c43 :: c44 :: c45 :: c46 :: c47 :: c48 :: c49 :: c50 :: c51 :: c52 :: c53 :: c54 :: c55 :: c56 :: c57 :: c58 :: c59 :: c60 :: c61 :: c62 :: c63 :: c64 :: c65 :: c66 :: c67 :: c68 :: c69 :: c70 :: c71 :: c72 :: c73 :: c74 :: c75 :: c76 :: c77 :: c78 :: c79 :: c80 :: c81 :: c82 :: c83 :: c84 :: c85 :: c86 :: c87 :: c88 :: c89 :: c90 :: c91 :: c92 :: c93 :: c94 :: c95 :: c96 :: c97 :: c98 :: c99 :: c100 :: c101 :: c102 :: c103 :: c104 :: c105 :: c106 :: c107 :: c108 :: c109 :: c110 :: c111 :: c112 :: c113 :: c114 :: c115 :: c116 :: c117 :: c118 :: c119 :: c120 :: c121 :: c122 :: c123 :: c124 :: c125 :: c126 :: c127 :: c128 :: c129 :: c130 :: c131 :: c132 :: c133 :: c134 :: c135 :: c136 :: i137 :: i138 :: i139 :: i140 :: i141 :: i142 :: i143 :: i144 :: i145 :: i146 :: i147 :: i148 :: i149 :: i150 :: i151 :: i152 :: i153 :: i154 :: i155 :: i156 :: i157 :: i158 :: i159 :: i160 :: i161 :: i162 :: i163 :: i164 :: i165 :: i166 :: i167 :: i168 :: i169 :: i170 :: i171 :: i172 :: i173 :: i174 :: i175 :: i176 :: i177 :: i178 :: c179 :: c180 :: c181 :: c182 :: c183 :: c184 :: c185 :: c186 :: c187 :: c188 :: c189 :: c190 :: c191 :: c192 :: c193 :: c194 :: c195 :: c196 :: c197 :: c198 :: c199 :: c200 :: c201 :: c202 :: c203 :: c204 :: c205 :: c206 :: c207 :: c208 :: c209 :: c210 :: c211 :: c212 :: c213 :: c214 :: c215 :: c216 :: c217 :: c218 :: c219 :: c220 :: c221 :: c222 :: c223 :: c224 :: c225 :: c226 :: c227 :: c228 :: c229 :: c230 :: c231 :: c232 :: c233 :: c234 :: c235 :: c236 :: c237 :: c238 :: c239 :: c240 :: c241 :: c242 :: c243 :: c244 :: c245 :: c246 :: c247 :: c248 :: c249 :: c250 :: c251 :: c252 :: c253 :: c254 :: c255 :: c256 :: c257 :: c258 :: c259 :: c260 :: c261 :: c262 :: c263 :: c264 :: c265 :: c266 :: c267 :: c268 :: c269 :: c270 :: c271 :: c272 :: c273 :: c274 :: c275 :: c276 :: c277 :: c278 :: c279 :: c280 :: c281 :: c282 :: c283 :: c284 :: c285 :: c286 :: c287 :: c288 :: c289 :: c290 :: c291 :: c292 :: c293 :: c294 :: c295 :: c296 :: c297 :: c298 :: c299 :: c300 :: c301 :: []).toArray, []⟩ w := by
  conv => arg 2; whnf
  have hml := hm.lt
  go_wp2_with fail
  go_loopw [19] (fun i wr => ∃ k : Nat, k ≤ 48 ∧ i = .int .i64 ((16 + k : Nat) : Int) ∧ wr.rowIs mB 96 64 (fun i => .int .u32 (sch32 m k i)) ∧ w.grownBy wr (some mB)) (fun i _ => 64 - (intOf i).toNat)
  case atStart => exact ⟨0, by omega, rfl, hm, grownBy_refl _ _⟩
  case round =>
    clear hm
    obtain ⟨k, hk, rfl, hM, hb⟩ := hrel
    obtain ⟨i, hi⟩ : ∃ i, i = 16 + k := ⟨_, rfl⟩
    rw [← hi]
    have hi16 : 16 ≤ i := by omega
    have hi64 : i ≤ 64 := by omega
    have HI : Hid (i = 16 + k) := hi
    clear hi
    have hsh := hsh0.grown hb (by simp; omega)
    have hs1r : wr.cell? ⟨sh, 1, none⟩ = some (.int .i64 64) := hsh.cell 1
    by_cases hk48 : i < 64
    · obtain ⟨we, hwe⟩ : ∃ we, we = wr := ⟨_, rfl⟩
      rw [← hwe]
      rw [← hwe] at hM hb hs1r hsh
      clear hwe
      have L0 := later_cell (show we.cell? ⟨sh, 0, none⟩ = some (.int .i64 32) from hsh.cell 0)
      have L8 := later_cell (show we.cell? ⟨sh, 8, none⟩ = some (.int .i64 7) from hsh.cell 8)
      have L9 := later_cell (show we.cell? ⟨sh, 9, none⟩ = some (.int .i64 18) from hsh.cell 9)
      have L10 := later_cell (show we.cell? ⟨sh, 10, none⟩ = some (.int .i64 3) from hsh.cell 10)
      have L11 := later_cell (show we.cell? ⟨sh, 11, none⟩ = some (.int .i64 17) from hsh.cell 11)
      have L12 := later_cell (show we.cell? ⟨sh, 12, none⟩ = some (.int .i64 19) from hsh.cell 12)
      have L13 := later_cell (show we.cell? ⟨sh, 13, none⟩ = some (.int .i64 10) from hsh.cell 13)
      have M2 := later_cell (hM.cell (i := i - 2) (by omega))
      have M7 := later_cell (hM.cell (i := i - 7) (by omega))
      have M15 := later_cell (hM.cell (i := i - 15) (by omega))
      have M16 := later_cell (hM.cell (i := i - 16) (by omega))
      clear hsh hsh0
      go_wp2_with fail
      refine wp_region_later_tail 36 (by kernel_rfl) (by kernel_rfl) ?_
      simp only [List.take_succ_cons, List.take_zero, List.drop_succ_cons, List.drop_zero]
      repeat (go_big_quiet_step ((go_at_call 117; exact later_of (moved32_any _ _ _ _ _ (by omega) (by omega) (by omega) (by omega) (by omega) (by omega)))))
      refine wpQuiet_nil ?_
      intro _ hw'
      obtain ⟨x, hw''⟩ := hw'
      subst hw''
      have hfz := (rowIs_later hM x.h).frozen i
      have hmc := (rowIs_later hM x.h).cell (i := i) hk48
      go_wp2
      go_roundw
      case rel =>
        refine ⟨k + 1, by have := HI.out; omega, by have := HI.out; go_num, ((rowIs_later hM x.h).set i _).congr (fun t _ => ?_), grownBy_set (grownBy_later hb x.h) _⟩
        have := HI.out
        subst this
        by_cases ht : t = 16 + k <;> simp [ht, upd, sch32, schW32]
      case measure => simp [intOf]; omega
    · obtain rfl : k = 48 := by have := HI.out; omega
      have : i = 64 := by omega
      subst this
      go_wp2
      all_goals exact ⟨hM, hb⟩

set_option maxRecDepth 100000 in
set_option maxHeartbeats 4000000 in
theorem dg32_round (w : World) (B mB sh vB i : Nat) (F K m v : Nat → Int) (hB : B ≤ vB) (hshB : sh < B) (hT : Tabs w F K) (hsh : Blk w sh 158 #[.int .i64 32, .int .i64 64, .int .i64 2, .int .i64 13, .int .i64 22, .int .i64 6, .int .i64 11, .int .i64 25, .int .i64 7, .int .i64 18, .int .i64 3, .int .i64 17, .int .i64 19, .int .i64 10]) (hi : i < 64) (hM : w.rowIs mB 96 64 (fun i => .int .u32 (m i))) (hV : w.rowIs vB 171 8 (fun i => .int .u32 (v i)))
    {c0 c1 c3 c4 c5 c6 c8 c9 c10 c11 c12 c13 c14 c16 c17 c18 c19 i21 i22 i23 c24 c25 c26 c27 c28 c29 c30 c31 c32 c33 c34 c35 c36 c37 c38 c39 c40 c41 c42 c43 c44 c45 c46 c47 c48 c49 c50 c51 c52 c53 c54 c55 c56 c57 c58 c59 c60 c61 c62 c63 c64 c65 c66 c67 c68 c69 c70 c71 c72 c73 c74 c75 c76 c77 c78 c79 c80 c81 c82 c83 c84 c85 c86 c87 c88 c89 c90 c91 c92 c93 c94 c95 c96 c97 c98 c99 c100 c101 c102 c103 c104 c105 c106 c107 c108 c109 c110 c111 c112 c113 c114 c115 c116 c117 c118 c119 c120 c121 c122 c123 c124 c125 c126 c127 c128 c129 c130 c131 c132 c133 c134 c135 c136 c137 c138 c139 c140 c141 c142 c143 c144 c145 c146 c147 c148 c149 c150 c151 c152 c153 c154 c155 c156 c157 c158 c159 c160 c161 c162 c163 c164 c165 c166 c167 c168 c169 c170 c171 c172 c173 c174 c175 c176 c177 c178 c179 c180 c181 c183 i184 i185 i186 i187 i188 i189 i190 i191 i192 i193 i194 i195 i196 i197 i198 i199 i200 i201 i202 i203 i204 i205 i206 i207 i208 i209 i210 i211 i212 i213 i214 i215 i216 i217 i218 i219 i220 i221 i222 i223 i224 i225 i226 i227 i228 i229 i230 i231 i232 i233 i234 i235 i236 i237 i238 i239 i240 i241 i242 i243 i244 i245 i246 i247 i248 i249 i250 i251 i252 i253 i254 i255 i256 i257 i258 i259 i260 i261 i262 i263 i264 c265 c266 c267 c268 c269 c270 c271 c272 c273 c274 c275 c276 c277 c278 c279 c280 c281 c282 c283 c284 c285 c286 c287 c288 c289 c290 c291 c292 c293 c294 c295 c296 c297 c298 c299 c300 c301 : Value}
    (Q : Exit → Act → World → Prop) (hQ : ∀ (u21 u22 u23 u184 u185 u186 u187 u188 u189 u190 u191 u192 u193 u194 u195 u196 u197 u198 u199 u200 u201 u202 u203 u204 u205 u206 u207 u208 u209 u210 u211 u212 u213 u214 u215 u216 u217 u218 u219 u220 u221 u222 u223 u224 u225 u226 u227 u228 u229 u230 u231 u232 u233 u234 u235 u236 u237 u238 u239 u240 u241 u242 u243 u244 u245 u246 u247 u248 u249 u250 u251 u252 u253 u254 u255 u256 u257 u258 u259 u260 u261 u262 u263 u264 : Value) (w' : World), w'.rowIs vB 171 8 (fun j => .int .u32 (rnd32s K m v i j)) ∧ w.grownBy w' (some vB) → Q .normal ⟨(c0 :: c1 :: .pointer (some ⟨sh, 0, none⟩) :: c3 :: c4 :: c5 :: c6 :: .int .i64 32 :: c8 :: c9 :: c10 :: c11 :: c12 :: c13 :: c14 :: .slice (some ⟨mB, 0, none⟩) 64 64 :: c16 :: c17 :: c18 :: c19 :: .pointer (some ⟨vB, 0, none⟩) :: u21 :: u22 :: u23 :: c24 :: c25 :: c26 :: c27 :: c28 :: c29 :: c30 :: c31 :: c32 :: c33 :: c34 :: c35 :: c36 :: c37 :: c38 :: c39 :: c40 :: c41 :: c42 :: c43 :: c44 :: c45 :: c46 :: c47 :: c48 :: c49 :: c50 :: c51 :: c52 :: c53 :: c54 :: c55 :: c56 :: c57 :: c58 :: c59 :: c60 :: c61 :: c62 :: c63 :: c64 :: c65 :: c66 :: c67 :: c68 :: c69 :: c70 :: c71 :: c72 :: c73 :: c74 :: c75 :: c76 :: c77 :: c78 :: c79 :: c80 :: c81 :: c82 :: c83 :: c84 :: c85 :: c86 :: c87 :: c88 :: c89 :: c90 :: c91 :: c92 :: c93 :: c94 :: c95 :: c96 :: c97 :: c98 :: c99 :: c100 :: c101 :: c102 :: c103 :: c104 :: c105 :: c106 :: c107 :: c108 :: c109 :: c110 :: c111 :: c112 :: c113 :: c114 :: c115 :: c116 :: c117 :: c118 :: c119 :: c120 :: c121 :: c122 :: c123 :: c124 :: c125 :: c126 :: c127 :: c128 :: c129 :: c130 :: c131 :: c132 :: c133 :: c134 :: c135 :: c136 :: c137 :: c138 :: c139 :: c140 :: c141 :: c142 :: c143 :: c144 :: c145 :: c146 :: c147 :: c148 :: c149 :: c150 :: c151 :: c152 :: c153 :: c154 :: c155 :: c156 :: c157 :: c158 :: c159 :: c160 :: c161 :: c162 :: c163 :: c164 :: c165 :: c166 :: c167 :: c168 :: c169 :: c170 :: c171 :: c172 :: c173 :: c174 :: c175 :: c176 :: c177 :: c178 :: c179 :: c180 :: c181 :: .int .i64 i :: c183 :: u184 :: u185 :: u186 :: u187 :: u188 :: u189 :: u190 :: u191 :: u192 :: u193 :: u194 :: u195 :: u196 :: u197 :: u198 :: u199 :: u200 :: u201 :: u202 :: u203 :: u204 :: u205 :: u206 :: u207 :: u208 :: u209 :: u210 :: u211 :: u212 :: u213 :: u214 :: u215 :: u216 :: u217 :: u218 :: u219 :: u220 :: u221 :: u222 :: u223 :: u224 :: u225 :: u226 :: u227 :: u228 :: u229 :: u230 :: u231 :: u232 :: u233 :: u234 :: u235 :: u236 :: u237 :: u238 :: u239 :: u240 :: u241 :: u242 :: u243 :: u244 :: u245 :: u246 :: u247 :: u248 :: u249 :: u250 :: u251 :: u252 :: u253 :: u254 :: u255 :: u256 :: u257 :: u258 :: u259 :: u260 :: u261 :: u262 :: u263 :: u264 :: c265 :: c266 :: c267 :: c268 :: c269 :: c270 :: c271 :: c272 :: c273 :: c274 :: c275 :: c276 :: c277 :: c278 :: c279 :: c280 :: c281 :: c282 :: c283 :: c284 :: c285 :: c286 :: c287 :: c288 :: c289 :: c290 :: c291 :: c292 :: c293 :: c294 :: c295 :: c296 :: c297 :: c298 :: c299 :: c300 :: c301 :: []).toArray, []⟩ w') :
    (codeBlock 17 Tryz.f110).wp Tryz.prog Q ⟨(c0 :: c1 :: .pointer (some ⟨sh, 0, none⟩) :: c3 :: c4 :: c5 :: c6 :: .int .i64 32 :: c8 :: c9 :: c10 :: c11 :: c12 :: c13 :: c14 :: .slice (some ⟨mB, 0, none⟩) 64 64 :: c16 :: c17 :: c18 :: c19 :: .pointer (some ⟨vB, 0, none⟩) :: i21 :: i22 :: i23 :: c24 :: c25 :: c26 :: c27 :: c28 :: c29 :: c30 :: c31 :: c32 :: c33 :: c34 :: c35 :: c36 :: c37 :: c38 :: c39 :: c40 :: c41 :: c42 :: c43 :: c44 :: c45 :: c46 :: c47 :: c48 :: c49 :: c50 :: c51 :: c52 :: c53 :: c54 :: c55 :: c56 :: c57 :: c58 :: c59 :: c60 :: c61 :: c62 :: c63 :: c64 :: c65 :: c66 :: c67 :: c68 :: c69 :: c70 :: c71 :: c72 :: c73 :: c74 :: c75 :: c76 :: c77 :: c78 :: c79 :: c80 :: c81 :: c82 :: c83 :: c84 :: c85 :: c86 :: c87 :: c88 :: c89 :: c90 :: c91 :: c92 :: c93 :: c94 :: c95 :: c96 :: c97 :: c98 :: c99 :: c100 :: c101 :: c102 :: c103 :: c104 :: c105 :: c106 :: c107 :: c108 :: c109 :: c110 :: c111 :: c112 :: c113 :: c114 :: c115 :: c116 :: c117 :: c118 :: c119 :: c120 :: c121 :: c122 :: c123 :: c124 :: c125 :: c126 :: c127 :: c128 :: c129 :: c130 :: c131 :: c132 :: c133 :: c134 :: c135 :: c136 :: c137 :: c138 :: c139 :: c140 :: c141 :: c142 :: c143 :: c144 :: c145 :: c146 :: c147 :: c148 :: c149 :: c150 :: c151 :: c152 :: c153 :: c154 :: c155 :: c156 :: c157 :: c158 :: c159 :: c160 :: c161 :: c162 :: c163 :: c164 :: c165 :: c166 :: c167 :: c168 :: c169 :: c170 :: c171 :: c172 :: c173 :: c174 :: c175 :: c176 :: c177 :: c178 :: c179 :: c180 :: c181 :: .int .i64 i :: c183 :: i184 :: i185 :: i186 :: i187 :: i188 :: i189 :: i190 :: i191 :: i192 :: i193 :: i194 :: i195 :: i196 :: i197 :: i198 :: i199 :: i200 :: i201 :: i202 :: i203 :: i204 :: i205 :: i206 :: i207 :: i208 :: i209 :: i210 :: i211 :: i212 :: i213 :: i214 :: i215 :: i216 :: i217 :: i218 :: i219 :: i220 :: i221 :: i222 :: i223 :: i224 :: i225 :: i226 :: i227 :: i228 :: i229 :: i230 :: i231 :: i232 :: i233 :: i234 :: i235 :: i236 :: i237 :: i238 :: i239 :: i240 :: i241 :: i242 :: i243 :: i244 :: i245 :: i246 :: i247 :: i248 :: i249 :: i250 :: i251 :: i252 :: i253 :: i254 :: i255 :: i256 :: i257 :: i258 :: i259 :: i260 :: i261 :: i262 :: i263 :: i264 :: c265 :: c266 :: c267 :: c268 :: c269 :: c270 :: c271 :: c272 :: c273 :: c274 :: c275 :: c276 :: c277 :: c278 :: c279 :: c280 :: c281 :: c282 :: c283 :: c284 :: c285 :: c286 :: c287 :: c288 :: c289 :: c290 :: c291 :: c292 :: c293 :: c294 :: c295 :: c296 :: c297 :: c298 :: c299 :: c300 :: c301 :: []).toArray, []⟩ w := by
  conv => arg 2; whnf
  have hKi := hT.2 i (by omega)
  have hK1 := hKi.2.1
  have hK2 := hKi.2.2
  have LK := later_cell hKi.1
  have L0 := later_cell (show w.cell? ⟨sh, 0, none⟩ = some (.int .i64 32) from hsh.cell 0)
  have L5 := later_cell (show w.cell? ⟨sh, 5, none⟩ = some (.int .i64 6) from hsh.cell 5)
  have L6 := later_cell (show w.cell? ⟨sh, 6, none⟩ = some (.int .i64 11) from hsh.cell 6)
  have L7 := later_cell (show w.cell? ⟨sh, 7, none⟩ = some (.int .i64 25) from hsh.cell 7)
  have V7 := later_cell (hV.cell (i := 7) (by omega))
  have V4 := later_cell (hV.cell (i := 4) (by omega))
  have V5 := later_cell (hV.cell (i := 5) (by omega))
  have V6 := later_cell (hV.cell (i := 6) (by omega))
  have MI := later_cell (hM.cell (i := i) (by omega))
  clear hKi hT hM
  go_wp2_with fail
  refine wp_region_later (by kernel_rfl) (by kernel_rfl) ?_
  repeat (go_big_quiet_step ((go_at_call 118; exact later_of (mixed32_any _ _ _ _ _ (by omega) (by omega) (by omega) (by omega) (by omega) (by omega)))))
  refine wpQuiet_nil ?_
  intro _ hw'
  obtain ⟨x, hw''⟩ := hw'
  subst hw''
  have hb3 := x.h
  have hsh := hsh.later x.h
  have hV3 := rowIs_later hV x.h
  clear LK L0 L5 L6 L7 V7 V4 V5 V6 MI hV hK1 hK2
  obtain ⟨we, x⟩ := x
  simp only at *
  clear x
  have L0 := later_cell (show we.cell? ⟨sh, 0, none⟩ = some (.int .i64 32) from hsh.cell 0)
  have L2 := later_cell (show we.cell? ⟨sh, 2, none⟩ = some (.int .i64 2) from hsh.cell 2)
  have L3 := later_cell (show we.cell? ⟨sh, 3, none⟩ = some (.int .i64 13) from hsh.cell 3)
  have L4 := later_cell (show we.cell? ⟨sh, 4, none⟩ = some (.int .i64 22) from hsh.cell 4)
  have V0 := later_cell (hV3.cell (i := 0) (by omega))
  have V1 := later_cell (hV3.cell (i := 1) (by omega))
  have V2 := later_cell (hV3.cell (i := 2) (by omega))
  clear hsh
  go_wp2_with fail
  refine wp_region_later (by kernel_rfl) (by kernel_rfl) ?_
  repeat (go_big_quiet_step ((go_at_call 118; exact later_of (mixed32_any _ _ _ _ _ (by omega) (by omega) (by omega) (by omega) (by omega) (by omega)))))
  refine wpQuiet_nil ?_
  intro _ hw'
  obtain ⟨x, hw''⟩ := hw'
  subst hw''
  have hb4 := hb3.trans (x.h.mono hb3.size)
  have hV4 := rowIs_later hV3 x.h
  clear L0 L2 L3 L4 V0 V1 V2 hV3 hb3
  obtain ⟨we, x⟩ := x
  simp only at *
  clear x
  have V0 := hV4.cell (i := 0) (by omega)
  have V1 := hV4.cell (i := 1) (by omega)
  have V2 := hV4.cell (i := 2) (by omega)
  have V3 := hV4.cell (i := 3) (by omega)
  have V4 := hV4.cell (i := 4) (by omega)
  have V5 := hV4.cell (i := 5) (by omega)
  have V6 := hV4.cell (i := 6) (by omega)
  have V7 := hV4.cell (i := 7) (by omega)
  have Vf := hV4.frozen
  go_wp2
  refine ⟨((((((((hV4.set 0 _).set 1 _).set 2 _).set 3 _).set 4 _).set 5 _).set 6 _).set 7 _).congr (fun j hj => ?_), grownBy_set (grownBy_set (grownBy_set (grownBy_set (grownBy_set (grownBy_set (grownBy_set (grownBy_set (grownBy_of_below hb4 _) _) _) _) _) _) _) _) _⟩
  have hj8 : j = 0 ∨ j = 1 ∨ j = 2 ∨ j = 3 ∨ j = 4 ∨ j = 5 ∨ j = 6 ∨ j = 7 := by omega
  rcases hj8 with rfl | rfl | rfl | rfl | rfl | rfl | rfl | rfl <;> simp [rnd32s, tw32, uw32]
end Go.Proofs.YtipehnojibdfeaaGreat

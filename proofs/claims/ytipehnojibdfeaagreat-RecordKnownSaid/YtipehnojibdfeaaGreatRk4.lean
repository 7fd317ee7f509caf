/- Parts of the proof, as they were built: Hash5. -/
import Derived.Test.YtipehnojibdfeaaGreatRk2
import Derived.Test.YtipehnojibdfeaaGreatRk3

/- hash.digest at 32 bits: all rounds, the sum, one block, all blocks, the bytes of the result. -/
namespace Go.Proofs.YtipehnojibdfeaaGreat
open Go Go.Proofs Go.RowKit

set_option maxRecDepth 100000 in
set_option maxHeartbeats 4000000 in
theorem dg32_rounds (w : World) (B mB sh vB : Nat) (F K m s : Nat → Int) (hB : B ≤ vB) (hshB : sh < B) (hmv : mB ≠ vB) (hT : Tabs w F K) (hTB : ∀ i, i < 80 → (⟨1, i, none⟩ : Addr).block < B) (hTB' : ∀ i, i < 8 → (⟨0, i, none⟩ : Addr).block < B) (hsh : Blk w sh 158 #[.int .i64 32, .int .i64 64, .int .i64 2, .int .i64 13, .int .i64 22, .int .i64 6, .int .i64 11, .int .i64 25, .int .i64 7, .int .i64 18, .int .i64 3, .int .i64 17, .int .i64 19, .int .i64 10]) (hM : w.rowIs mB 96 64 (fun i => .int .u32 (m i))) (hV : w.rowIs vB 171 8 (fun i => .int .u32 (s i)))
    {c0 c1 c3 c4 c5 c6 c8 c9 c10 c11 c12 c13 c14 c16 c17 c18 c19 i21 i22 i23 c24 c25 c26 c27 c28 c29 c30 c31 c32 c33 c34 c35 c36 c37 c38 c39 c40 c41 c42 c43 c44 c45 c46 c47 c48 c49 c50 c51 c52 c53 c54 c55 c56 c57 c58 c59 c60 c61 c62 c63 c64 c65 c66 c67 c68 c69 c70 c71 c72 c73 c74 c75 c76 c77 c78 c79 c80 c81 c82 c83 c84 c85 c86 c87 c88 c89 c90 c91 c92 c93 c94 c95 c96 c97 c98 c99 c100 c101 c102 c103 c104 c105 c106 c107 c108 c109 c110 c111 c112 c113 c114 c115 c116 c117 c118 c119 c120 c121 c122 c123 c124 c125 c126 c127 c128 c129 c130 c131 c132 c133 c134 c135 c136 c137 c138 c139 c140 c141 c142 c143 c144 c145 c146 c147 c148 c149 c150 c151 c152 c153 c154 c155 c156 c157 c158 c159 c160 c161 c162 c163 c164 c165 c166 c167 c168 c169 c170 c171 c172 c173 c174 c175 c176 c177 c178 c179 c180 i183 i184 i185 i186 i187 i188 i189 i190 i191 i192 i193 i194 i195 i196 i197 i198 i199 i200 i201 i202 i203 i204 i205 i206 i207 i208 i209 i210 i211 i212 i213 i214 i215 i216 i217 i218 i219 i220 i221 i222 i223 i224 i225 i226 i227 i228 i229 i230 i231 i232 i233 i234 i235 i236 i237 i238 i239 i240 i241 i242 i243 i244 i245 i246 i247 i248 i249 i250 i251 i252 i253 i254 i255 i256 i257 i258 i259 i260 i261 i262 i263 i264 i265 c266 c267 c268 c269 c270 c271 c272 c273 c274 c275 c276 c277 c278 c279 c280 c281 c282 c283 c284 c285 c286 c287 c288 c289 c290 c291 c292 c293 c294 c295 c296 c297 c298 c299 c300 c301 : Value}
    (Q : Exit → Act → World → Prop) (hQ : ∀ (u21 u22 u23 u182 u183 u184 u185 u186 u187 u188 u189 u190 u191 u192 u193 u194 u195 u196 u197 u198 u199 u200 u201 u202 u203 u204 u205 u206 u207 u208 u209 u210 u211 u212 u213 u214 u215 u216 u217 u218 u219 u220 u221 u222 u223 u224 u225 u226 u227 u228 u229 u230 u231 u232 u233 u234 u235 u236 u237 u238 u239 u240 u241 u242 u243 u244 u245 u246 u247 u248 u249 u250 u251 u252 u253 u254 u255 u256 u257 u258 u259 u260 u261 u262 u263 u264 u265 : Value) (w' : World), w'.rowIs vB 171 8 (fun j => .int .u32 (rnd32 K m s 64 j)) ∧ w.grownBy w' (some vB) → Q .normal ⟨(c0 :: c1 :: .pointer (some ⟨sh, 0, none⟩) :: c3 :: c4 :: c5 :: c6 :: .int .i64 32 :: c8 :: c9 :: c10 :: c11 :: c12 :: c13 :: c14 :: .slice (some ⟨mB, 0, none⟩) 64 64 :: c16 :: c17 :: c18 :: c19 :: .pointer (some ⟨vB, 0, none⟩) :: u21 :: u22 :: u23 :: c24 :: c25 :: c26 :: c27 :: c28 :: c29 :: c30 :: c31 :: c32 :: c33 :: c34 :: c35 :: c36 :: c37 :: c38 :: c39 :: c40 :: c41 :: c42 :: c43 :: c44 :: c45 :: c46 :: c47 :: c48 :: c49 :: c50 :: c51 :: c52 :: c53 :: c54 :: c55 :: c56 :: c57 :: c58 :: c59 :: c60 :: c61 :: c62 :: c63 :: c64 :: c65 :: c66 :: c67 :: c68 :: c69 :: c70 :: c71 :: c72 :: c73 :: c74 :: c75 :: c76 :: c77 :: c78 :: c79 :: c80 :: c81 :: c82 :: c83 :: c84 :: c85 :: c86 :: c87 :: c88 :: c89 :: c90 :: c91 :: c92 :: c93 :: c94 :: c95 :: c96 :: c97 :: c98 :: c99 :: c100 :: c101 :: c102 :: c103 :: c104 :: c105 :: c106 :: c107 :: c108 :: c109 :: c110 :: c111 :: c112 :: c113 :: c114 :: c115 :: c116 :: c117 :: c118 :: c119 :: c120 :: c121 :: c122 :: c123 :: c124 :: c125 :: c126 :: c127 :: c128 :: c129 :: c130 :: c131 :: c132 :: c133 :: c134 :: c135 :: c136 :: c137 :: c138 :: c139 :: c140 :: c141 :: c142 :: c143 :: c144 :: c145 :: c146 :: c147 :: c148 :: c149 :: c150 :: c151 :: c152 :: c153 :: c154 :: c155 :: c156 :: c157 :: c158 :: c159 :: c160 :: c161 :: c162 :: c163 :: c164 :: c165 :: c166 :: c167 :: c168 :: c169 :: c170 :: c171 :: c172 :: c173 :: c174 :: c175 :: c176 :: c177 :: c178 :: c179 :: c180 :: .int .i64 64 :: u182 :: u183 :: u184 :: u185 :: u186 :: u187 :: u188 :: u189 :: u190 :: u191 :: u192 :: u193 :: u194 :: u195 :: u196 :: u197 :: u198 :: u199 :: u200 :: u201 :: u202 :: u203 :: u204 :: u205 :: u206 :: u207 :: u208 :: u209 :: u210 :: u211 :: u212 :: u213 :: u214 :: u215 :: u216 :: u217 :: u218 :: u219 :: u220 :: u221 :: u222 :: u223 :: u224 :: u225 :: u226 :: u227 :: u228 :: u229 :: u230 :: u231 :: u232 :: u233 :: u234 :: u235 :: u236 :: u237 :: u238 :: u239 :: u240 :: u241 :: u242 :: u243 :: u244 :: u245 :: u246 :: u247 :: u248 :: u249 :: u250 :: u251 :: u252 :: u253 :: u254 :: u255 :: u256 :: u257 :: u258 :: u259 :: u260 :: u261 :: u262 :: u263 :: u264 :: u265 :: c266 :: c267 :: c268 :: c269 :: c270 :: c271 :: c272 :: c273 :: c274 :: c275 :: c276 :: c277 :: c278 :: c279 :: c280 :: c281 :: c282 :: c283 :: c284 :: c285 :: c286 :: c287 :: c288 :: c289 :: c290 :: c291 :: c292 :: c293 :: c294 :: c295 :: c296 :: c297 :: c298 :: c299 :: c300 :: c301 :: []).toArray, []⟩ w') :
    (codeBlock 16 Tryz.f110).wp Tryz.prog Q ⟨(c0 :: c1 :: .pointer (some ⟨sh, 0, none⟩) :: c3 :: c4 :: c5 :: c6 :: .int .i64 32 :: c8 :: c9 :: c10 :: c11 :: c12 :: c13 :: c14 :: .slice (some ⟨mB, 0, none⟩) 64 64 :: c16 :: c17 :: c18 :: c19 :: .pointer (some ⟨vB, 0, none⟩) :: i21 :: i22 :: i23 :: c24 :: c25 :: c26 :: c27 :: c28 :: c29 :: c30 :: c31 :: c32 :: c33 :: c34 :: c35 :: c36 :: c37 :: c38 :: c39 :: c40 :: c41 :: c42 :: c43 :: c44 :: c45 :: c46 :: c47 :: c48 :: c49 :: c50 :: c51 :: c52 :: c53 :: c54 :: c55 :: c56 :: c57 :: c58 :: c59 :: c60 :: c61 :: c62 :: c63 :: c64 :: c65 :: c66 :: c67 :: c68 :: c69 :: c70 :: c71 :: c72 :: c73 :: c74 :: c75 :: c76 :: c77 :: c78 :: c79 :: c80 :: c81 :: c82 :: c83 :: c84 :: c85 :: c86 :: c87 :: c88 :: c89 :: c90 :: c91 :: c92 :: c93 :: c94 :: c95 :: c96 :: c97 :: c98 :: c99 :: c100 :: c101 :: c102 :: c103 :: c104 :: c105 :: c106 :: c107 :: c108 :: c109 :: c110 :: c111 :: c112 :: c113 :: c114 :: c115 :: c116 :: c117 :: c118 :: c119 :: c120 :: c121 :: c122 :: c123 :: c124 :: c125 :: c126 :: c127 :: c128 :: c129 :: c130 :: c131 :: c132 :: c133 :: c134 :: c135 :: c136 :: c137 :: c138 :: c139 :: c140 :: c141 :: c142 :: c143 :: c144 :: c145 :: c146 :: c147 :: c148 :: c149 :: c150 :: c151 :: c152 :: c153 :: c154 :: c155 :: c156 :: c157 :: c158 :: c159 :: c160 :: c161 :: c162 :: c163 :: c164 :: c165 :: c166 :: c167 :: c168 :: c169 :: c170 :: c171 :: c172 :: c173 :: c174 :: c175 :: c176 :: c177 :: c178 :: c179 :: c180 :: .int .i64 64 :: .int .i64 0 :: i183 :: i184 :: i185 :: i186 :: i187 :: i188 :: i189 :: i190 :: i191 :: i192 :: i193 :: i194 :: i195 :: i196 :: i197 :: i198 :: i199 :: i200 :: i201 :: i202 :: i203 :: i204 :: i205 :: i206 :: i207 :: i208 :: i209 :: i210 :: i211 :: i212 :: i213 :: i214 :: i215 :: i216 :: i217 :: i218 :: i219 :: i220 :: i221 :: i222 :: i223 :: i224 :: i225 :: i226 :: i227 :: i228 :: i229 :: i230 :: i231 :: i232 :: i233 :: i234 :: i235 :: i236 :: i237 :: i238 :: i239 :: i240 :: i241 :: i242 :: i243 :: i244 :: i245 :: i246 :: i247 :: i248 :: i249 :: i250 :: i251 :: i252 :: i253 :: i254 :: i255 :: i256 :: i257 :: i258 :: i259 :: i260 :: i261 :: i262 :: i263 :: i264 :: i265 :: c266 :: c267 :: c268 :: c269 :: c270 :: c271 :: c272 :: c273 :: c274 :: c275 :: c276 :: c277 :: c278 :: c279 :: c280 :: c281 :: c282 :: c283 :: c284 :: c285 :: c286 :: c287 :: c288 :: c289 :: c290 :: c291 :: c292 :: c293 :: c294 :: c295 :: c296 :: c297 :: c298 :: c299 :: c300 :: c301 :: []).toArray, []⟩ w := by
  conv => arg 2; whnf
  have hvl := hV.lt
  go_wp2_with fail
  go_loopw [182] (fun i wr => ∃ k : Nat, k ≤ 64 ∧ i = .int .i64 k ∧ wr.rowIs vB 171 8 (fun i => .int .u32 (rnd32 K m s k i)) ∧ w.grownBy wr (some vB)) (fun i _ => 64 - (intOf i).toNat)
  case atStart => exact ⟨0, by omega, rfl, hV, grownBy_refl _ _⟩
  case round =>
    clear hV
    obtain ⟨i, hk, rfl, hV, hb⟩ := hrel
    by_cases hi : i < 64
    · have hTr : Tabs wr F K := ⟨fun j hj => ⟨(World.cell?_of_block (hb.block _ (by have := hTB' j hj; simp at this ⊢; omega) (by have := hTB' j hj; simp at this ⊢; omega))).trans (hT.1 j hj).1, (hT.1 j hj).2⟩,
        fun j hj => ⟨(World.cell?_of_block (hb.block _ (by have := hTB j hj; simp at this ⊢; omega) (by have := hTB j hj; simp at this ⊢; omega))).trans (hT.2 j hj).1, (hT.2 j hj).2⟩⟩
      have hshr := hsh.grown hb (by simp; omega)
      have hMr := rowIs_grown hM hb (by simp; omega)
      have hid : decide ((i : Int) < 64) = true := by simp; omega
      clear hT hsh hM
      go_upto_block 17 with (fail)
      refine dg32_round _ B mB sh vB i F K m _ hB hshB hTr hshr hi hMr hV _ ?_
      intros
      rename_i w1 h1
      obtain ⟨hV1, hb1⟩ := h1
      have hb2 := grownBy_trans hb hb1
      clear hb hb1 hTr hshr hMr hV
      go_wp2
      go_roundw
      case rel => exact ⟨i + 1, by omega, by go_num, hV1, hb2⟩
      case measure => simp [intOf]; omega
    · obtain rfl : i = 64 := by omega
      go_wp2
      exact ⟨hV, hb⟩

set_option maxRecDepth 100000 in
set_option maxHeartbeats 4000000 in
theorem dg32_sum (w : World) (sB vB : Nat) (s v : Nat → Int) (hne : sB ≠ vB) (hS : w.rowIs sB 171 8 (fun i => .int .u32 (s i))) (hV : w.rowIs vB 171 8 (fun i => .int .u32 (v i)))
    {c0 c1 c2 c3 c4 c5 c6 c7 c8 c9 c10 c11 c12 c14 c15 c16 c17 c18 c19 c21 c22 c23 i24 c25 c26 c27 c28 c29 c30 c31 c32 c33 c34 c35 c36 c37 c38 c39 c40 c41 c42 c43 c44 c45 c46 c47 c48 c49 c50 c51 c52 c53 c54 c55 c56 c57 c58 c59 c60 c61 c62 c63 c64 c65 c66 c67 c68 c69 c70 c71 c72 c73 c74 c75 c76 c77 c78 c79 c80 c81 c82 c83 c84 c85 c86 c87 c88 c89 c90 c91 c92 c93 c94 c95 c96 c97 c98 c99 c100 c101 c102 c103 c104 c105 c106 c107 c108 c109 c110 c111 c112 c113 c114 c115 c116 c117 c118 c119 c120 c121 c122 c123 c124 c125 c126 c127 c128 c129 c130 c131 c132 c133 c134 c135 c136 c137 c138 c139 c140 c141 c142 c143 c144 c145 c146 c147 c148 c149 c150 c151 c152 c153 c154 c155 c156 c157 c158 c159 c160 c161 c162 c163 c164 c165 c166 c167 c168 c169 c170 c171 c172 c173 c174 c175 c176 c177 c178 c179 c180 c181 c182 c183 c184 c185 c186 c187 c188 c189 c190 c191 c192 c193 c194 c195 c196 c197 c198 c199 c200 c201 c202 c203 c204 c205 c206 c207 c208 c209 c210 c211 c212 c213 c214 c215 c216 c217 c218 c219 c220 c221 c222 c223 c224 c225 c226 c227 c228 c229 c230 c231 c232 c233 c234 c235 c236 c237 c238 c239 c240 c241 c242 c243 c244 c245 c246 c247 c248 c249 c250 c251 c252 c253 c254 c255 c256 c257 c258 c259 c260 c261 c262 c263 c264 c265 i267 i268 i269 i270 i271 i272 i273 i274 i275 i276 i277 c278 c279 c280 c281 c282 c283 c284 c285 c286 c287 c288 c289 c290 c291 c292 c293 c294 c295 c296 c297 c298 c299 c300 c301 : Value}
    (Q : Exit → Act → World → Prop) (hQ : ∀ (u24 u266 u267 u268 u269 u270 u271 u272 u273 u274 u275 u276 u277 : Value) (w' : World), w'.rowIs sB 171 8 (fun j => .int .u32 (add32 s v 8 j)) ∧ w.grownBy w' (some sB) → Q .normal ⟨(c0 :: c1 :: c2 :: c3 :: c4 :: c5 :: c6 :: c7 :: c8 :: c9 :: c10 :: c11 :: c12 :: .pointer (some ⟨sB, 0, none⟩) :: c14 :: c15 :: c16 :: c17 :: c18 :: c19 :: .pointer (some ⟨vB, 0, none⟩) :: c21 :: c22 :: c23 :: u24 :: c25 :: c26 :: c27 :: c28 :: c29 :: c30 :: c31 :: c32 :: c33 :: c34 :: c35 :: c36 :: c37 :: c38 :: c39 :: c40 :: c41 :: c42 :: c43 :: c44 :: c45 :: c46 :: c47 :: c48 :: c49 :: c50 :: c51 :: c52 :: c53 :: c54 :: c55 :: c56 :: c57 :: c58 :: c59 :: c60 :: c61 :: c62 :: c63 :: c64 :: c65 :: c66 :: c67 :: c68 :: c69 :: c70 :: c71 :: c72 :: c73 :: c74 :: c75 :: c76 :: c77 :: c78 :: c79 :: c80 :: c81 :: c82 :: c83 :: c84 :: c85 :: c86 :: c87 :: c88 :: c89 :: c90 :: c91 :: c92 :: c93 :: c94 :: c95 :: c96 :: c97 :: c98 :: c99 :: c100 :: c101 :: c102 :: c103 :: c104 :: c105 :: c106 :: c107 :: c108 :: c109 :: c110 :: c111 :: c112 :: c113 :: c114 :: c115 :: c116 :: c117 :: c118 :: c119 :: c120 :: c121 :: c122 :: c123 :: c124 :: c125 :: c126 :: c127 :: c128 :: c129 :: c130 :: c131 :: c132 :: c133 :: c134 :: c135 :: c136 :: c137 :: c138 :: c139 :: c140 :: c141 :: c142 :: c143 :: c144 :: c145 :: c146 :: c147 :: c148 :: c149 :: c150 :: c151 :: c152 :: c153 :: c154 :: c155 :: c156 :: c157 :: c158 :: c159 :: c160 :: c161 :: c162 :: c163 :: c164 :: c165 :: c166 :: c167 :: c168 :: c169 :: c170 :: c171 :: c172 :: c173 :: c174 :: c175 :: c176 :: c177 :: c178 :: c179 :: c180 :: c181 :: c182 :: c183 :: c184 :: c185 :: c186 :: c187 :: c188 :: c189 :: c190 :: c191 :: c192 :: c193 :: c194 :: c195 :: c196 :: c197 :: c198 :: c199 :: c200 :: c201 :: c202 :: c203 :: c204 :: c205 :: c206 :: c207 :: c208 :: c209 :: c210 :: c211 :: c212 :: c213 :: c214 :: c215 :: c216 :: c217 :: c218 :: c219 :: c220 :: c221 :: c222 :: c223 :: c224 :: c225 :: c226 :: c227 :: c228 :: c229 :: c230 :: c231 :: c232 :: c233 :: c234 :: c235 :: c236 :: c237 :: c238 :: c239 :: c240 :: c241 :: c242 :: c243 :: c244 :: c245 :: c246 :: c247 :: c248 :: c249 :: c250 :: c251 :: c252 :: c253 :: c254 :: c255 :: c256 :: c257 :: c258 :: c259 :: c260 :: c261 :: c262 :: c263 :: c264 :: c265 :: u266 :: u267 :: u268 :: u269 :: u270 :: u271 :: u272 :: u273 :: u274 :: u275 :: u276 :: u277 :: c278 :: c279 :: c280 :: c281 :: c282 :: c283 :: c284 :: c285 :: c286 :: c287 :: c288 :: c289 :: c290 :: c291 :: c292 :: c293 :: c294 :: c295 :: c296 :: c297 :: c298 :: c299 :: c300 :: c301 :: []).toArray, []⟩ w') :
    (codeBlock 18 Tryz.f110).wp Tryz.prog Q ⟨(c0 :: c1 :: c2 :: c3 :: c4 :: c5 :: c6 :: c7 :: c8 :: c9 :: c10 :: c11 :: c12 :: .pointer (some ⟨sB, 0, none⟩) :: c14 :: c15 :: c16 :: c17 :: c18 :: c19 :: .pointer (some ⟨vB, 0, none⟩) :: c21 :: c22 :: c23 :: i24 :: c25 :: c26 :: c27 :: c28 :: c29 :: c30 :: c31 :: c32 :: c33 :: c34 :: c35 :: c36 :: c37 :: c38 :: c39 :: c40 :: c41 :: c42 :: c43 :: c44 :: c45 :: c46 :: c47 :: c48 :: c49 :: c50 :: c51 :: c52 :: c53 :: c54 :: c55 :: c56 :: c57 :: c58 :: c59 :: c60 :: c61 :: c62 :: c63 :: c64 :: c65 :: c66 :: c67 :: c68 :: c69 :: c70 :: c71 :: c72 :: c73 :: c74 :: c75 :: c76 :: c77 :: c78 :: c79 :: c80 :: c81 :: c82 :: c83 :: c84 :: c85 :: c86 :: c87 :: c88 :: c89 :: c90 :: c91 :: c92 :: c93 :: c94 :: c95 :: c96 :: c97 :: c98 :: c99 :: c100 :: c101 :: c102 :: c103 :: c104 :: c105 :: c106 :: c107 :: c108 :: c109 :: c110 :: c111 :: c112 :: c113 :: c114 :: c115 :: c116 :: c117 :: c118 :: c119 :: c120 :: c121 :: c122 :: c123 :: c124 :: c125 :: c126 :: c127 :: c128 :: c129 :: c130 :: c131 :: c132 :: c133 :: c134 :: c135 :: c136 :: c137 :: c138 :: c139 :: c140 :: c141 :: c142 :: c143 :: c144 :: c145 :: c146 :: c147 :: c148 :: c149 :: c150 :: c151 :: c152 :: c153 :: c154 :: c155 :: c156 :: c157 :: c158 :: c159 :: c160 :: c161 :: c162 :: c163 :: c164 :: c165 :: c166 :: c167 :: c168 :: c169 :: c170 :: c171 :: c172 :: c173 :: c174 :: c175 :: c176 :: c177 :: c178 :: c179 :: c180 :: c181 :: c182 :: c183 :: c184 :: c185 :: c186 :: c187 :: c188 :: c189 :: c190 :: c191 :: c192 :: c193 :: c194 :: c195 :: c196 :: c197 :: c198 :: c199 :: c200 :: c201 :: c202 :: c203 :: c204 :: c205 :: c206 :: c207 :: c208 :: c209 :: c210 :: c211 :: c212 :: c213 :: c214 :: c215 :: c216 :: c217 :: c218 :: c219 :: c220 :: c221 :: c222 :: c223 :: c224 :: c225 :: c226 :: c227 :: c228 :: c229 :: c230 :: c231 :: c232 :: c233 :: c234 :: c235 :: c236 :: c237 :: c238 :: c239 :: c240 :: c241 :: c242 :: c243 :: c244 :: c245 :: c246 :: c247 :: c248 :: c249 :: c250 :: c251 :: c252 :: c253 :: c254 :: c255 :: c256 :: c257 :: c258 :: c259 :: c260 :: c261 :: c262 :: c263 :: c264 :: c265 :: .int .i64 0 :: i267 :: i268 :: i269 :: i270 :: i271 :: i272 :: i273 :: i274 :: i275 :: i276 :: i277 :: c278 :: c279 :: c280 :: c281 :: c282 :: c283 :: c284 :: c285 :: c286 :: c287 :: c288 :: c289 :: c290 :: c291 :: c292 :: c293 :: c294 :: c295 :: c296 :: c297 :: c298 :: c299 :: c300 :: c301 :: []).toArray, []⟩ w := by
  conv => arg 2; whnf
  go_wp2_with fail
  go_loopw [266] (fun i wr => ∃ k : Nat, k ≤ 8 ∧ i = .int .i64 k ∧ wr.rowIs sB 171 8 (fun i => .int .u32 (add32 s v k i)) ∧ w.grownBy wr (some sB)) (fun i _ => 8 - (intOf i).toNat)
  case atStart => exact ⟨0, by omega, rfl, hS, grownBy_refl _ _⟩
  case round =>
    clear hS
    obtain ⟨i, hk, rfl, hS, hb⟩ := hrel
    by_cases hi : i < 8
    · have hVr := rowIs_grown hV hb (by simp; omega)
      obtain ⟨we, hwe⟩ : ∃ we, we = wr := ⟨_, rfl⟩
      rw [← hwe]
      rw [← hwe] at hS hVr hb
      clear hwe
      have C1 := later_cell (hS.cell (i := i) hi)
      have C2 := later_cell (hVr.cell (i := i) hi)
      clear hV hVr
      go_wp2_with fail
      refine wp_region_later_tail 8 (by kernel_rfl) (by kernel_rfl) ?_
      simp only [List.take_succ_cons, List.take_zero, List.drop_succ_cons, List.drop_zero]
      repeat (go_big_quiet_step (fail))
      refine wpQuiet_nil ?_
      intro _ hw'
      obtain ⟨x, hw''⟩ := hw'
      subst hw''
      have hfz := (rowIs_later hS x.h).frozen i
      go_wp2
      go_roundw
      case rel => exact ⟨i + 1, by omega, by go_num, ((rowIs_later hS x.h).set i _).congr (fun j _ => by by_cases hj : j = i <;> simp [hj, add32, upd]), grownBy_set (grownBy_later hb x.h) _⟩
      case measure => simp [intOf]; omega
    · obtain rfl : i = 8 := by omega
      go_wp2
      exact ⟨hS, hb⟩

set_option maxRecDepth 100000 in
set_option maxHeartbeats 4000000 in
theorem dg32_block (w : World) (B mB sh sB L cA : Nat) (ad : Addr) (F K m s D : Nat → Int) (hBs : B ≤ sB) (hBm : B ≤ mB) (hsm : sB ≠ mB) (hshB : sh < B) (hT : Tabs w F K) (hTB : ∀ i, i < 80 → (⟨1, i, none⟩ : Addr).block < B) (hTB' : ∀ i, i < 8 → (⟨0, i, none⟩ : Addr).block < B) (hsh : Blk w sh 158 #[.int .i64 32, .int .i64 64, .int .i64 2, .int .i64 13, .int .i64 22, .int .i64 6, .int .i64 11, .int .i64 25, .int .i64 7, .int .i64 18, .int .i64 3, .int .i64 17, .int .i64 19, .int .i64 10]) (hL : 64 ≤ L) (hLc : L ≤ cA) (hLm : L ≤ 140737488351332) (hadB : ad.block < B) (hM : w.rowIs mB 96 64 (fun i => .int .u32 (m i))) (hS : w.rowIs sB 171 8 (fun i => .int .u32 (s i))) (hD : ∀ q, q < 64 → w.cell? (ad.add q) = some (.int .u8 (D q))) (hDr : ∀ i, 0 ≤ D i ∧ D i < 256)
    {c0 c1 c3 c4 c6 c9 c10 c11 c12 c14 i16 c17 i18 i19 i20 i21 i22 i23 i24 c25 c26 c27 c28 c29 c30 c31 c32 c33 c34 c35 c36 c37 c38 c39 c40 c41 c42 c43 c44 c45 c46 c47 c48 c49 c50 c51 c52 c53 c54 c55 c56 c57 c58 c59 c60 c61 c62 c63 c64 c65 c66 c67 c68 c69 c70 c71 c72 c73 c74 c75 c76 c77 c78 c79 c80 c81 c82 c83 c84 c85 c86 c87 c88 c89 c90 c91 c92 c93 c94 c95 c96 c97 c98 c99 c100 c101 c102 c103 i104 i105 i106 i107 i108 i109 i110 i111 i112 i113 i114 i115 i116 i117 i118 i119 i120 i121 i122 i123 i124 i125 i126 i127 i128 i129 i130 i131 i132 i133 i134 i135 i136 i137 i138 i139 i140 i141 i142 i143 i144 i145 i146 i147 i148 i149 i150 i151 i152 i153 i154 i155 i156 i157 i158 i159 i160 i161 i162 i163 i164 i165 i166 i167 i168 i169 i170 i171 i172 i173 i174 i175 i176 i177 i178 i179 i180 i181 i182 i183 i184 i185 i186 i187 i188 i189 i190 i191 i192 i193 i194 i195 i196 i197 i198 i199 i200 i201 i202 i203 i204 i205 i206 i207 i208 i209 i210 i211 i212 i213 i214 i215 i216 i217 i218 i219 i220 i221 i222 i223 i224 i225 i226 i227 i228 i229 i230 i231 i232 i233 i234 i235 i236 i237 i238 i239 i240 i241 i242 i243 i244 i245 i246 i247 i248 i249 i250 i251 i252 i253 i254 i255 i256 i257 i258 i259 i260 i261 i262 i263 i264 i265 i266 i267 i268 i269 i270 i271 i272 i273 i274 i275 i276 i277 c278 c279 c280 c281 c282 c283 c284 c285 c286 c287 c288 c289 c290 c291 c292 c293 c294 c295 c296 c297 c298 c299 c300 c301 : Value}
    (Q : Exit → Act → World → Prop) (hQ : ∀ (u16 u18 u19 u20 u21 u22 u23 u24 u104 u105 u106 u107 u108 u109 u110 u111 u112 u113 u114 u115 u116 u117 u118 u119 u120 u121 u122 u123 u124 u125 u126 u127 u128 u129 u130 u131 u132 u133 u134 u135 u136 u137 u138 u139 u140 u141 u142 u143 u144 u145 u146 u147 u148 u149 u150 u151 u152 u153 u154 u155 u156 u157 u158 u159 u160 u161 u162 u163 u164 u165 u166 u167 u168 u169 u170 u171 u172 u173 u174 u175 u176 u177 u178 u179 u180 u181 u182 u183 u184 u185 u186 u187 u188 u189 u190 u191 u192 u193 u194 u195 u196 u197 u198 u199 u200 u201 u202 u203 u204 u205 u206 u207 u208 u209 u210 u211 u212 u213 u214 u215 u216 u217 u218 u219 u220 u221 u222 u223 u224 u225 u226 u227 u228 u229 u230 u231 u232 u233 u234 u235 u236 u237 u238 u239 u240 u241 u242 u243 u244 u245 u246 u247 u248 u249 u250 u251 u252 u253 u254 u255 u256 u257 u258 u259 u260 u261 u262 u263 u264 u265 u266 u267 u268 u269 u270 u271 u272 u273 u274 u275 u276 u277 : Value) (w' : World), w'.rowIs sB 171 8 (fun j => .int .u32 (add32 s (rnd32 K (sch32 (ld32 m D 16) 48) s 64) 8 j)) ∧ w'.rowIs mB 96 64 (fun j => .int .u32 (sch32 (ld32 m D 16) 48 j)) ∧ Below B w w' → Q .normal ⟨(c0 :: c1 :: .pointer (some ⟨sh, 0, none⟩) :: c3 :: c4 :: .int .i64 4 :: c6 :: .int .i64 32 :: .slice (some ad) L cA :: c9 :: c10 :: c11 :: c12 :: .pointer (some ⟨sB, 0, none⟩) :: c14 :: .slice (some ⟨mB, 0, none⟩) 64 64 :: u16 :: c17 :: u18 :: u19 :: u20 :: u21 :: u22 :: u23 :: u24 :: c25 :: c26 :: c27 :: c28 :: c29 :: c30 :: c31 :: c32 :: c33 :: c34 :: c35 :: c36 :: c37 :: c38 :: c39 :: c40 :: c41 :: c42 :: c43 :: c44 :: c45 :: c46 :: c47 :: c48 :: c49 :: c50 :: c51 :: c52 :: c53 :: c54 :: c55 :: c56 :: c57 :: c58 :: c59 :: c60 :: c61 :: c62 :: c63 :: c64 :: c65 :: c66 :: c67 :: c68 :: c69 :: c70 :: c71 :: c72 :: c73 :: c74 :: c75 :: c76 :: c77 :: c78 :: c79 :: c80 :: c81 :: c82 :: c83 :: c84 :: c85 :: c86 :: c87 :: c88 :: c89 :: c90 :: c91 :: c92 :: c93 :: c94 :: c95 :: c96 :: c97 :: c98 :: c99 :: c100 :: c101 :: c102 :: c103 :: u104 :: u105 :: u106 :: u107 :: u108 :: u109 :: u110 :: u111 :: u112 :: u113 :: u114 :: u115 :: u116 :: u117 :: u118 :: u119 :: u120 :: u121 :: u122 :: u123 :: u124 :: u125 :: u126 :: u127 :: u128 :: u129 :: u130 :: u131 :: u132 :: u133 :: u134 :: u135 :: u136 :: u137 :: u138 :: u139 :: u140 :: u141 :: u142 :: u143 :: u144 :: u145 :: u146 :: u147 :: u148 :: u149 :: u150 :: u151 :: u152 :: u153 :: u154 :: u155 :: u156 :: u157 :: u158 :: u159 :: u160 :: u161 :: u162 :: u163 :: u164 :: u165 :: u166 :: u167 :: u168 :: u169 :: u170 :: u171 :: u172 :: u173 :: u174 :: u175 :: u176 :: u177 :: u178 :: u179 :: u180 :: u181 :: u182 :: u183 :: u184 :: u185 :: u186 :: u187 :: u188 :: u189 :: u190 :: u191 :: u192 :: u193 :: u194 :: u195 :: u196 :: u197 :: u198 :: u199 :: u200 :: u201 :: u202 :: u203 :: u204 :: u205 :: u206 :: u207 :: u208 :: u209 :: u210 :: u211 :: u212 :: u213 :: u214 :: u215 :: u216 :: u217 :: u218 :: u219 :: u220 :: u221 :: u222 :: u223 :: u224 :: u225 :: u226 :: u227 :: u228 :: u229 :: u230 :: u231 :: u232 :: u233 :: u234 :: u235 :: u236 :: u237 :: u238 :: u239 :: u240 :: u241 :: u242 :: u243 :: u244 :: u245 :: u246 :: u247 :: u248 :: u249 :: u250 :: u251 :: u252 :: u253 :: u254 :: u255 :: u256 :: u257 :: u258 :: u259 :: u260 :: u261 :: u262 :: u263 :: u264 :: u265 :: u266 :: u267 :: u268 :: u269 :: u270 :: u271 :: u272 :: u273 :: u274 :: u275 :: u276 :: u277 :: c278 :: c279 :: c280 :: c281 :: c282 :: c283 :: c284 :: c285 :: c286 :: c287 :: c288 :: c289 :: c290 :: c291 :: c292 :: c293 :: c294 :: c295 :: c296 :: c297 :: c298 :: c299 :: c300 :: c301 :: []).toArray, []⟩ w') :
    (codeBlock 9 Tryz.f110).wp Tryz.prog Q ⟨(c0 :: c1 :: .pointer (some ⟨sh, 0, none⟩) :: c3 :: c4 :: .int .i64 4 :: c6 :: .int .i64 32 :: .slice (some ad) L cA :: c9 :: c10 :: c11 :: c12 :: .pointer (some ⟨sB, 0, none⟩) :: c14 :: .slice (some ⟨mB, 0, none⟩) 64 64 :: i16 :: c17 :: i18 :: i19 :: i20 :: i21 :: i22 :: i23 :: i24 :: c25 :: c26 :: c27 :: c28 :: c29 :: c30 :: c31 :: c32 :: c33 :: c34 :: c35 :: c36 :: c37 :: c38 :: c39 :: c40 :: c41 :: c42 :: c43 :: c44 :: c45 :: c46 :: c47 :: c48 :: c49 :: c50 :: c51 :: c52 :: c53 :: c54 :: c55 :: c56 :: c57 :: c58 :: c59 :: c60 :: c61 :: c62 :: c63 :: c64 :: c65 :: c66 :: c67 :: c68 :: c69 :: c70 :: c71 :: c72 :: c73 :: c74 :: c75 :: c76 :: c77 :: c78 :: c79 :: c80 :: c81 :: c82 :: c83 :: c84 :: c85 :: c86 :: c87 :: c88 :: c89 :: c90 :: c91 :: c92 :: c93 :: c94 :: c95 :: c96 :: c97 :: c98 :: c99 :: c100 :: c101 :: c102 :: c103 :: i104 :: i105 :: i106 :: i107 :: i108 :: i109 :: i110 :: i111 :: i112 :: i113 :: i114 :: i115 :: i116 :: i117 :: i118 :: i119 :: i120 :: i121 :: i122 :: i123 :: i124 :: i125 :: i126 :: i127 :: i128 :: i129 :: i130 :: i131 :: i132 :: i133 :: i134 :: i135 :: i136 :: i137 :: i138 :: i139 :: i140 :: i141 :: i142 :: i143 :: i144 :: i145 :: i146 :: i147 :: i148 :: i149 :: i150 :: i151 :: i152 :: i153 :: i154 :: i155 :: i156 :: i157 :: i158 :: i159 :: i160 :: i161 :: i162 :: i163 :: i164 :: i165 :: i166 :: i167 :: i168 :: i169 :: i170 :: i171 :: i172 :: i173 :: i174 :: i175 :: i176 :: i177 :: i178 :: i179 :: i180 :: i181 :: i182 :: i183 :: i184 :: i185 :: i186 :: i187 :: i188 :: i189 :: i190 :: i191 :: i192 :: i193 :: i194 :: i195 :: i196 :: i197 :: i198 :: i199 :: i200 :: i201 :: i202 :: i203 :: i204 :: i205 :: i206 :: i207 :: i208 :: i209 :: i210 :: i211 :: i212 :: i213 :: i214 :: i215 :: i216 :: i217 :: i218 :: i219 :: i220 :: i221 :: i222 :: i223 :: i224 :: i225 :: i226 :: i227 :: i228 :: i229 :: i230 :: i231 :: i232 :: i233 :: i234 :: i235 :: i236 :: i237 :: i238 :: i239 :: i240 :: i241 :: i242 :: i243 :: i244 :: i245 :: i246 :: i247 :: i248 :: i249 :: i250 :: i251 :: i252 :: i253 :: i254 :: i255 :: i256 :: i257 :: i258 :: i259 :: i260 :: i261 :: i262 :: i263 :: i264 :: i265 :: i266 :: i267 :: i268 :: i269 :: i270 :: i271 :: i272 :: i273 :: i274 :: i275 :: i276 :: i277 :: c278 :: c279 :: c280 :: c281 :: c282 :: c283 :: c284 :: c285 :: c286 :: c287 :: c288 :: c289 :: c290 :: c291 :: c292 :: c293 :: c294 :: c295 :: c296 :: c297 :: c298 :: c299 :: c300 :: c301 :: []).toArray, []⟩ w := by
  conv => arg 2; whnf
  have hml := hM.lt
  have hsl := hS.lt
  go_upto_block 10 with (fail)
  refine dg32_words _ B mB L cA ad m D hBm hL hLc hLm hadB hM hD hDr _ ?_
  intros
  rename_i w1 h1
  obtain ⟨hM1, g1⟩ := h1
  have b1 : Below B w w1 := below_of_grownBy g1 hBm (by omega)
  have hS1 := rowIs_grown hS g1 (by simp; exact hsm)
  have hsh1 := hsh.below b1 hshB
  have hT1 := hT.below b1 hTB' hTB
  clear hM hS hsh hT hD hDr g1
  go_upto_block 14 with (fail)
  refine dg32_sched _ B mB sh (ld32 m D 16) hBm hshB hsh1 hM1 _ ?_
  intros
  rename_i w2 h2
  obtain ⟨hM2, g2⟩ := h2
  have b2 : Below B w w2 := b1.trans (below_of_grownBy g2 hBm (by have := b1.size; omega))
  have hS2 := rowIs_grown hS1 g2 (by simp; exact hsm)
  have hsh2 := hsh1.grown g2 (by simp; omega)
  have hT2 := hT1.below (below_of_grownBy g2 hBm (by have := b1.size; omega)) hTB' hTB
  clear hM1 hS1 hsh1 hT1 g2 b1
  have S0 := hS2.cell (i := 0) (by omega)
  have S1 := hS2.cell (i := 1) (by omega)
  have S2 := hS2.cell (i := 2) (by omega)
  have S3 := hS2.cell (i := 3) (by omega)
  have S4 := hS2.cell (i := 4) (by omega)
  have S5 := hS2.cell (i := 5) (by omega)
  have S6 := hS2.cell (i := 6) (by omega)
  have S7 := hS2.cell (i := 7) (by omega)
  have hs1r : w2.cell? ⟨sh, 1, none⟩ = some (.int .i64 64) := hsh2.cell 1
  have hshl := hsh2.lt
  have hshne : ¬ sh = w2.heap.size := by omega
  go_upto_block 16 with (fail)
  obtain ⟨w3, hw3⟩ : ∃ w3, w3 = w2.alloc (.cells #[.int .u32 (s 0), .int .u32 (s 1), .int .u32 (s 2), .int .u32 (s 3), .int .u32 (s 4), .int .u32 (s 5), .int .u32 (s 6), .int .u32 (s 7)] 171) := ⟨_, rfl⟩
  rw [← hw3]
  have q : Below w2.heap.size w2 w3 := by rw [hw3]; exact (Below.refl _ _).alloc (Nat.le_refl _) _
  have hV3 : w3.rowIs w2.heap.size 171 8 (fun i => .int .u32 (s i)) := by rw [hw3]; exact row8_of w2 171 s
  have hM3 := rowIs_later hM2 q
  have hS3 := rowIs_later hS2 q
  have b3 : Below B w w3 := b2.trans (q.mono (by have := b2.size; omega))
  have hsh3 := hsh2.later q
  have hT3 := hT2.later q
  have hm2l := hM2.lt
  have hs2l := hS2.lt
  have hBw2 : B ≤ w2.heap.size := by omega
  obtain ⟨vB, hvB⟩ : ∃ vB, vB = w2.heap.size := ⟨_, rfl⟩
  rw [← hvB] at hV3 hm2l hs2l hBw2
  simp only [← hvB]
  clear hM2 hS2 hsh2 hT2 S0 S1 S2 S3 S4 S5 S6 S7 hs1r hshne hw3 q b2 hvB hshl
  refine dg32_rounds _ B mB sh vB F K _ s hBw2 hshB (by omega) hT3 hTB hTB' hsh3 hM3 hV3 _ ?_
  intros
  rename_i w4 h4
  obtain ⟨hV4, g4⟩ := h4
  have hM4 := rowIs_grown hM3 g4 (by simp; omega)
  have hS4 := rowIs_grown hS3 g4 (by simp; omega)
  have b4 : Below B w w4 := b3.trans (below_of_grownBy g4 hBw2 (by have := hV3.lt; omega))
  clear hM3 hS3 hsh3 hT3 g4 b3 hV3
  go_upto_block 18 with (fail)
  refine dg32_sum _ sB vB s _ (by omega) hS4 hV4 _ ?_
  intros
  rename_i w5 h5
  obtain ⟨hS5, g5⟩ := h5
  have hM5 := rowIs_grown hM4 g5 (by simp; omega)
  have b5 : Below B w w5 := b4.trans (below_of_grownBy g5 hBs (by have := hS4.lt; omega))
  clear hM4 hS4 hV4 g5 b4
  go_wp2
  all_goals exact ⟨hS5, hM5, b5⟩
end Go.Proofs.YtipehnojibdfeaaGreat

/- Parts of the proof, as they were built: Hash6. -/
import Derived.Test.YtipehnojibdfeaaGreatRk4

/- hash.digest at 32 bits, whole: it computes its Lean twin; and Sha256. -/
namespace Go.Proofs.YtipehnojibdfeaaGreat
open Go Go.Proofs Go.RowKit

set_option maxRecDepth 100000 in
set_option maxHeartbeats 4000000 in
theorem dg32_blocks (w : World) (B mB sh sB cP : Nat) (aP : Option Addr) (PD : List UInt8) (F K : Nat → Int) (hBs : B ≤ sB) (hBm : B ≤ mB) (hsm : sB ≠ mB) (hshB : sh < B) (hT : Tabs w F K) (hTB : ∀ i, i < 80 → (⟨1, i, none⟩ : Addr).block < B) (hTB' : ∀ i, i < 8 → (⟨0, i, none⟩ : Addr).block < B) (hsh : Blk w sh 158 #[.int .i64 32, .int .i64 64, .int .i64 2, .int .i64 13, .int .i64 22, .int .i64 6, .int .i64 11, .int .i64 25, .int .i64 7, .int .i64 18, .int .i64 3, .int .i64 17, .int .i64 19, .int .i64 10]) (hP64 : PD.length % 64 = 0) (hPb : PD.length ≤ 140737488351332) (hPc : PD.length ≤ cP) (hR : Reads w B 1 aP PD.length (Lib.byteCells PD)) (hM : w.rowIs mB 96 64 (fun i => .int .u32 ((blks32 F K PD 0).2 i))) (hS : w.rowIs sB 171 8 (fun i => .int .u32 ((blks32 F K PD 0).1 i)))
    {c0 c1 c3 c4 c9 c10 c11 c12 c14 i16 c17 i18 i19 i20 i21 i22 i23 i24 c25 c26 c27 c28 c29 c30 c31 c32 c33 c34 c35 c36 c37 c38 c39 c40 c41 c42 c43 c44 c45 c46 c47 c48 c49 c50 c51 c52 c53 c54 c55 c56 c57 c58 c59 c60 c61 c62 c63 c64 c65 c66 c67 c68 c69 c70 c71 c72 c73 c74 c75 c76 c77 c78 c79 c80 c81 c82 c83 c84 c85 c86 c87 c88 c89 c90 c91 c92 c93 c94 c95 c96 c97 i98 i99 i100 i101 i102 i103 i104 i105 i106 i107 i108 i109 i110 i111 i112 i113 i114 i115 i116 i117 i118 i119 i120 i121 i122 i123 i124 i125 i126 i127 i128 i129 i130 i131 i132 i133 i134 i135 i136 i137 i138 i139 i140 i141 i142 i143 i144 i145 i146 i147 i148 i149 i150 i151 i152 i153 i154 i155 i156 i157 i158 i159 i160 i161 i162 i163 i164 i165 i166 i167 i168 i169 i170 i171 i172 i173 i174 i175 i176 i177 i178 i179 i180 i181 i182 i183 i184 i185 i186 i187 i188 i189 i190 i191 i192 i193 i194 i195 i196 i197 i198 i199 i200 i201 i202 i203 i204 i205 i206 i207 i208 i209 i210 i211 i212 i213 i214 i215 i216 i217 i218 i219 i220 i221 i222 i223 i224 i225 i226 i227 i228 i229 i230 i231 i232 i233 i234 i235 i236 i237 i238 i239 i240 i241 i242 i243 i244 i245 i246 i247 i248 i249 i250 i251 i252 i253 i254 i255 i256 i257 i258 i259 i260 i261 i262 i263 i264 i265 i266 i267 i268 i269 i270 i271 i272 i273 i274 i275 i276 i277 c278 c279 c280 c281 c282 c283 c284 c285 c286 c287 c288 c289 c290 c291 c292 c293 c294 c295 c296 c297 c298 c299 c300 c301 : Value}
    (Q : Exit → Act → World → Prop) (hQ : ∀ (u8 u16 u18 u19 u20 u21 u22 u23 u24 u98 u99 u100 u101 u102 u103 u104 u105 u106 u107 u108 u109 u110 u111 u112 u113 u114 u115 u116 u117 u118 u119 u120 u121 u122 u123 u124 u125 u126 u127 u128 u129 u130 u131 u132 u133 u134 u135 u136 u137 u138 u139 u140 u141 u142 u143 u144 u145 u146 u147 u148 u149 u150 u151 u152 u153 u154 u155 u156 u157 u158 u159 u160 u161 u162 u163 u164 u165 u166 u167 u168 u169 u170 u171 u172 u173 u174 u175 u176 u177 u178 u179 u180 u181 u182 u183 u184 u185 u186 u187 u188 u189 u190 u191 u192 u193 u194 u195 u196 u197 u198 u199 u200 u201 u202 u203 u204 u205 u206 u207 u208 u209 u210 u211 u212 u213 u214 u215 u216 u217 u218 u219 u220 u221 u222 u223 u224 u225 u226 u227 u228 u229 u230 u231 u232 u233 u234 u235 u236 u237 u238 u239 u240 u241 u242 u243 u244 u245 u246 u247 u248 u249 u250 u251 u252 u253 u254 u255 u256 u257 u258 u259 u260 u261 u262 u263 u264 u265 u266 u267 u268 u269 u270 u271 u272 u273 u274 u275 u276 u277 : Value) (w' : World), w'.rowIs sB 171 8 (fun i => .int .u32 ((blks32 F K PD (PD.length / 64)).1 i)) ∧ Below B w w' → Q .normal ⟨(c0 :: c1 :: .pointer (some ⟨sh, 0, none⟩) :: c3 :: c4 :: .int .i64 4 :: .int .i64 64 :: .int .i64 32 :: u8 :: c9 :: c10 :: c11 :: c12 :: .pointer (some ⟨sB, 0, none⟩) :: c14 :: .slice (some ⟨mB, 0, none⟩) 64 64 :: u16 :: c17 :: u18 :: u19 :: u20 :: u21 :: u22 :: u23 :: u24 :: c25 :: c26 :: c27 :: c28 :: c29 :: c30 :: c31 :: c32 :: c33 :: c34 :: c35 :: c36 :: c37 :: c38 :: c39 :: c40 :: c41 :: c42 :: c43 :: c44 :: c45 :: c46 :: c47 :: c48 :: c49 :: c50 :: c51 :: c52 :: c53 :: c54 :: c55 :: c56 :: c57 :: c58 :: c59 :: c60 :: c61 :: c62 :: c63 :: c64 :: c65 :: c66 :: c67 :: c68 :: c69 :: c70 :: c71 :: c72 :: c73 :: c74 :: c75 :: c76 :: c77 :: c78 :: c79 :: c80 :: c81 :: c82 :: c83 :: c84 :: c85 :: c86 :: c87 :: c88 :: c89 :: c90 :: c91 :: c92 :: c93 :: c94 :: c95 :: c96 :: c97 :: u98 :: u99 :: u100 :: u101 :: u102 :: u103 :: u104 :: u105 :: u106 :: u107 :: u108 :: u109 :: u110 :: u111 :: u112 :: u113 :: u114 :: u115 :: u116 :: u117 :: u118 :: u119 :: u120 :: u121 :: u122 :: u123 :: u124 :: u125 :: u126 :: u127 :: u128 :: u129 :: u130 :: u131 :: u132 :: u133 :: u134 :: u135 :: u136 :: u137 :: u138 :: u139 :: u140 :: u141 :: u142 :: u143 :: u144 :: u145 :: u146 :: u147 :: u148 :: u149 :: u150 :: u151 :: u152 :: u153 :: u154 :: u155 :: u156 :: u157 :: u158 :: u159 :: u160 :: u161 :: u162 :: u163 :: u164 :: u165 :: u166 :: u167 :: u168 :: u169 :: u170 :: u171 :: u172 :: u173 :: u174 :: u175 :: u176 :: u177 :: u178 :: u179 :: u180 :: u181 :: u182 :: u183 :: u184 :: u185 :: u186 :: u187 :: u188 :: u189 :: u190 :: u191 :: u192 :: u193 :: u194 :: u195 :: u196 :: u197 :: u198 :: u199 :: u200 :: u201 :: u202 :: u203 :: u204 :: u205 :: u206 :: u207 :: u208 :: u209 :: u210 :: u211 :: u212 :: u213 :: u214 :: u215 :: u216 :: u217 :: u218 :: u219 :: u220 :: u221 :: u222 :: u223 :: u224 :: u225 :: u226 :: u227 :: u228 :: u229 :: u230 :: u231 :: u232 :: u233 :: u234 :: u235 :: u236 :: u237 :: u238 :: u239 :: u240 :: u241 :: u242 :: u243 :: u244 :: u245 :: u246 :: u247 :: u248 :: u249 :: u250 :: u251 :: u252 :: u253 :: u254 :: u255 :: u256 :: u257 :: u258 :: u259 :: u260 :: u261 :: u262 :: u263 :: u264 :: u265 :: u266 :: u267 :: u268 :: u269 :: u270 :: u271 :: u272 :: u273 :: u274 :: u275 :: u276 :: u277 :: c278 :: c279 :: c280 :: c281 :: c282 :: c283 :: c284 :: c285 :: c286 :: c287 :: c288 :: c289 :: c290 :: c291 :: c292 :: c293 :: c294 :: c295 :: c296 :: c297 :: c298 :: c299 :: c300 :: c301 :: []).toArray, []⟩ w') :
    (codeBlock 8 Tryz.f110).wp Tryz.prog Q ⟨(c0 :: c1 :: .pointer (some ⟨sh, 0, none⟩) :: c3 :: c4 :: .int .i64 4 :: .int .i64 64 :: .int .i64 32 :: .slice aP PD.length cP :: c9 :: c10 :: c11 :: c12 :: .pointer (some ⟨sB, 0, none⟩) :: c14 :: .slice (some ⟨mB, 0, none⟩) 64 64 :: i16 :: c17 :: i18 :: i19 :: i20 :: i21 :: i22 :: i23 :: i24 :: c25 :: c26 :: c27 :: c28 :: c29 :: c30 :: c31 :: c32 :: c33 :: c34 :: c35 :: c36 :: c37 :: c38 :: c39 :: c40 :: c41 :: c42 :: c43 :: c44 :: c45 :: c46 :: c47 :: c48 :: c49 :: c50 :: c51 :: c52 :: c53 :: c54 :: c55 :: c56 :: c57 :: c58 :: c59 :: c60 :: c61 :: c62 :: c63 :: c64 :: c65 :: c66 :: c67 :: c68 :: c69 :: c70 :: c71 :: c72 :: c73 :: c74 :: c75 :: c76 :: c77 :: c78 :: c79 :: c80 :: c81 :: c82 :: c83 :: c84 :: c85 :: c86 :: c87 :: c88 :: c89 :: c90 :: c91 :: c92 :: c93 :: c94 :: c95 :: c96 :: c97 :: i98 :: i99 :: i100 :: i101 :: i102 :: i103 :: i104 :: i105 :: i106 :: i107 :: i108 :: i109 :: i110 :: i111 :: i112 :: i113 :: i114 :: i115 :: i116 :: i117 :: i118 :: i119 :: i120 :: i121 :: i122 :: i123 :: i124 :: i125 :: i126 :: i127 :: i128 :: i129 :: i130 :: i131 :: i132 :: i133 :: i134 :: i135 :: i136 :: i137 :: i138 :: i139 :: i140 :: i141 :: i142 :: i143 :: i144 :: i145 :: i146 :: i147 :: i148 :: i149 :: i150 :: i151 :: i152 :: i153 :: i154 :: i155 :: i156 :: i157 :: i158 :: i159 :: i160 :: i161 :: i162 :: i163 :: i164 :: i165 :: i166 :: i167 :: i168 :: i169 :: i170 :: i171 :: i172 :: i173 :: i174 :: i175 :: i176 :: i177 :: i178 :: i179 :: i180 :: i181 :: i182 :: i183 :: i184 :: i185 :: i186 :: i187 :: i188 :: i189 :: i190 :: i191 :: i192 :: i193 :: i194 :: i195 :: i196 :: i197 :: i198 :: i199 :: i200 :: i201 :: i202 :: i203 :: i204 :: i205 :: i206 :: i207 :: i208 :: i209 :: i210 :: i211 :: i212 :: i213 :: i214 :: i215 :: i216 :: i217 :: i218 :: i219 :: i220 :: i221 :: i222 :: i223 :: i224 :: i225 :: i226 :: i227 :: i228 :: i229 :: i230 :: i231 :: i232 :: i233 :: i234 :: i235 :: i236 :: i237 :: i238 :: i239 :: i240 :: i241 :: i242 :: i243 :: i244 :: i245 :: i246 :: i247 :: i248 :: i249 :: i250 :: i251 :: i252 :: i253 :: i254 :: i255 :: i256 :: i257 :: i258 :: i259 :: i260 :: i261 :: i262 :: i263 :: i264 :: i265 :: i266 :: i267 :: i268 :: i269 :: i270 :: i271 :: i272 :: i273 :: i274 :: i275 :: i276 :: i277 :: c278 :: c279 :: c280 :: c281 :: c282 :: c283 :: c284 :: c285 :: c286 :: c287 :: c288 :: c289 :: c290 :: c291 :: c292 :: c293 :: c294 :: c295 :: c296 :: c297 :: c298 :: c299 :: c300 :: c301 :: []).toArray, []⟩ w := by
  conv => arg 2; whnf
  have HP64 : Hid (PD.length % 64 = 0) := hP64
  have hsl := hS.lt
  clear hP64
  go_wp2_with fail
  go_loopw [8] (fun v wr => ∃ j : Nat, ∃ A c, 64 * j ≤ PD.length ∧ v = .slice A (PD.length - 64 * j) c ∧ PD.length - 64 * j ≤ c ∧ Reads w B 1 A (PD.length - 64 * j) (Lib.byteCells (PD.drop (64 * j))) ∧
      wr.rowIs sB 171 8 (fun i => .int .u32 ((blks32 F K PD j).1 i)) ∧ wr.rowIs mB 96 64 (fun i => .int .u32 ((blks32 F K PD j).2 i)) ∧ Below B w wr) (fun v _ => sliceLen v)
  case atStart => exact ⟨0, _, _, by omega, rfl, by omega, by simpa using hR, hS, hM, Below.refl _ _⟩
  case round =>
    clear hS hM hR
    obtain ⟨j, A, cA, hj, rfl, hjc, hR, hS, hM, hb⟩ := hrel
    by_cases hlt : 64 * j < PD.length
    · have hlt64 : 64 * j + 64 ≤ PD.length := by have := HP64.out; omega
      obtain ⟨L, hL⟩ : ∃ L, L = PD.length - 64 * j := ⟨_, rfl⟩
      rw [← hL] at hR hjc
      simp only [← hL]
      have hL64 : 64 ≤ L := by omega
      obtain ⟨ad, rfl, hadB, hcell⟩ := hR.2 (by omega)
      have hLm : L ≤ 140737488351332 := by omega
      have HL : Hid (L = PD.length - 64 * j) := hL
      clear hL
      have hcellD : ∀ i, i < 64 → wr.cell? (ad.add i) = some (.int .u8 (byteAt PD (64 * j + i))) := by
        intro i hi
        refine (hb.cell (by rw [block_of_add]; exact hadB)).trans (hcell i _ ?_)
        have : 64 * j + i < PD.length := by omega
        simp [byteAt, Lib.byteCells, List.getD_eq_getElem?_getD, List.getElem?_eq_getElem this]
      have hDr : ∀ i, 0 ≤ byteAt PD (64 * j + i) ∧ byteAt PD (64 * j + i) < 256 := by intro i; simp only [byteAt]; have := (PD.getD (64 * j + i) 0).toNat_lt; omega
      have hLd : decide (0 < L) = true := by simp; omega
      have hshr := hsh.below hb hshB
      have hTr := hT.below hb hTB' hTB
      clear hcell hT hsh
      go_upto_block 9 with (fail)
      refine dg32_block _ B mB sh sB L cA ad F K _ _ (fun i => byteAt PD (64 * j + i)) hBs hBm hsm hshB hTr hTB hTB' hshr hL64 hjc hLm hadB hM hS hcellD hDr _ ?_
      intros
      rename_i w1 h1
      obtain ⟨hS1, hM1, b1⟩ := h1
      have hb2 := hb.trans b1
      have e : blks32 F K PD (j + 1) = (add32 (blks32 F K PD j).1 (rnd32 K (sch32 (ld32 (blks32 F K PD j).2 (fun i => byteAt PD (64 * j + i)) 16) 48) (blks32 F K PD j).1 64) 8, sch32 (ld32 (blks32 F K PD j).2 (fun i => byteAt PD (64 * j + i)) 16) 48) := rfl
      have hS2 : w1.rowIs sB 171 8 (fun i => .int .u32 ((blks32 F K PD (j + 1)).1 i)) := by rw [e]; exact hS1
      have hM2 : w1.rowIs mB 96 64 (fun i => .int .u32 ((blks32 F K PD (j + 1)).2 i)) := by rw [e]; exact hM1
      have hRw := hR.cut (k := 64) hL64 hjc
      have eL : L - 64 = PD.length - 64 * (j + 1) := by have := HL.out; omega
      have eD : (Lib.byteCells (PD.drop (64 * j))).drop (64 * 1) = Lib.byteCells (PD.drop (64 * (j + 1))) := by
        rw [Lib.byteCells, Lib.byteCells, ← List.map_drop, List.drop_drop]
        rfl
      rw [eD, eL] at hRw
      have HEL : Hid (L - 64 = PD.length - 64 * (j + 1)) := eL
      clear e eL eD hS1 hM1 hb b1 hshr hTr hM hS hcellD hDr hR
      by_cases hcA : cA = 64
      · rw [if_pos hcA] at hRw
        go_wp2
        go_roundw
        case rel => exact ⟨j + 1, some ad, 0, by omega, by rw [← HEL.out], by rw [← HEL.out]; omega, hRw, hS2, hM2, hb2⟩
        case measure => simp [sliceLen]; omega
      · rw [if_neg hcA] at hRw
        go_wp2
        go_roundw
        case rel => exact ⟨j + 1, some ⟨ad.block, ad.off + 64, none⟩, cA - 64, by omega, by rw [← HEL.out], by rw [← HEL.out]; omega, hRw, hS2, hM2, hb2⟩
        case measure => simp [sliceLen]; omega
    · have hj2 : j = PD.length / 64 := by omega
      have hS' : wr.rowIs sB 171 8 (fun i => .int .u32 ((blks32 F K PD (PD.length / 64)).1 i)) := by rw [← hj2]; exact hS
      clear hj2 hS hM hR
      go_wp2
      exact ⟨hS', hb⟩

set_option maxRecDepth 100000 in
set_option maxHeartbeats 4000000 in
theorem dg32_out1 (w : World) (B : Nat) (v0 : Value) (l : List UInt8) (x : Int) (hx0 : 0 ≤ x) (hx1 : x < 4294967296) (hl : l.length ≤ 1000) (hown0 : w.ownsRow B 5 1 v0 l.length (Lib.byteCells l)) (hB : B ≤ w.heap.size)
    {c0 c1 c2 c3 c4 c5 c6 c7 c8 c9 c10 c11 c12 c13 c14 c15 c16 c17 c18 c19 c20 c21 c22 c23 c24 c26 c29 c30 c31 c32 c33 c34 c35 c36 c37 c38 c39 c40 c41 c42 c43 c44 c45 c46 c47 c48 c49 c50 c51 c52 c53 c54 c55 c56 c57 c58 c59 c60 c61 c62 c63 c64 c65 c66 c67 c68 c69 c70 c71 c72 c73 c74 c75 c76 c77 c78 c79 c80 c81 c82 c83 c84 c85 c86 c87 c88 c89 c90 c91 c92 c93 c94 c95 c96 c97 c98 c99 c100 c101 c102 c103 c104 c105 c106 c107 c108 c109 c110 c111 c112 c113 c114 c115 c116 c117 c118 c119 c120 c121 c122 c123 c124 c125 c126 c127 c128 c129 c130 c131 c132 c133 c134 c135 c136 c137 c138 c139 c140 c141 c142 c143 c144 c145 c146 c147 c148 c149 c150 c151 c152 c153 c154 c155 c156 c157 c158 c159 c160 c161 c162 c163 c164 c165 c166 c167 c168 c169 c170 c171 c172 c173 c174 c175 c176 c177 c178 c179 c180 c181 c182 c183 c184 c185 c186 c187 c188 c189 c190 c191 c192 c193 c194 c195 c196 c197 c198 c199 c200 c201 c202 c203 c204 c205 c206 c207 c208 c209 c210 c211 c212 c213 c214 c215 c216 c217 c218 c219 c220 c221 c222 c223 c224 c225 c226 c227 c228 c229 c230 c231 c232 c233 c234 c235 c236 c237 c238 c239 c240 c241 c242 c243 c244 c245 c246 c247 c248 c249 c250 c251 c252 c253 c254 c255 c256 c257 c258 c259 c260 c261 c262 c263 c264 c265 c266 c267 c268 c269 c270 c271 c272 c273 c274 c275 c276 c277 c278 c279 c280 c281 c282 c283 c284 c285 c286 i287 i288 i289 i290 i291 i292 i293 i294 i295 i296 i297 i298 c299 c300 c301 : Value}
    (Q : Exit → Act → World → Prop) (hQ : ∀ (u25 u28 u287 u288 u289 u290 u291 u292 u293 u294 u295 u296 u297 u298 : Value) (w' : World), w'.ownsRow B 5 1 u25 (l.length + 4) (Lib.byteCells (l ++ outw32 x 4)) ∧ Below B w w' → Q .normal ⟨(c0 :: c1 :: c2 :: c3 :: c4 :: c5 :: c6 :: c7 :: c8 :: c9 :: c10 :: c11 :: c12 :: c13 :: c14 :: c15 :: c16 :: c17 :: c18 :: c19 :: c20 :: c21 :: c22 :: c23 :: c24 :: u25 :: c26 :: .int .u32 x :: u28 :: c29 :: c30 :: c31 :: c32 :: c33 :: c34 :: c35 :: c36 :: c37 :: c38 :: c39 :: c40 :: c41 :: c42 :: c43 :: c44 :: c45 :: c46 :: c47 :: c48 :: c49 :: c50 :: c51 :: c52 :: c53 :: c54 :: c55 :: c56 :: c57 :: c58 :: c59 :: c60 :: c61 :: c62 :: c63 :: c64 :: c65 :: c66 :: c67 :: c68 :: c69 :: c70 :: c71 :: c72 :: c73 :: c74 :: c75 :: c76 :: c77 :: c78 :: c79 :: c80 :: c81 :: c82 :: c83 :: c84 :: c85 :: c86 :: c87 :: c88 :: c89 :: c90 :: c91 :: c92 :: c93 :: c94 :: c95 :: c96 :: c97 :: c98 :: c99 :: c100 :: c101 :: c102 :: c103 :: c104 :: c105 :: c106 :: c107 :: c108 :: c109 :: c110 :: c111 :: c112 :: c113 :: c114 :: c115 :: c116 :: c117 :: c118 :: c119 :: c120 :: c121 :: c122 :: c123 :: c124 :: c125 :: c126 :: c127 :: c128 :: c129 :: c130 :: c131 :: c132 :: c133 :: c134 :: c135 :: c136 :: c137 :: c138 :: c139 :: c140 :: c141 :: c142 :: c143 :: c144 :: c145 :: c146 :: c147 :: c148 :: c149 :: c150 :: c151 :: c152 :: c153 :: c154 :: c155 :: c156 :: c157 :: c158 :: c159 :: c160 :: c161 :: c162 :: c163 :: c164 :: c165 :: c166 :: c167 :: c168 :: c169 :: c170 :: c171 :: c172 :: c173 :: c174 :: c175 :: c176 :: c177 :: c178 :: c179 :: c180 :: c181 :: c182 :: c183 :: c184 :: c185 :: c186 :: c187 :: c188 :: c189 :: c190 :: c191 :: c192 :: c193 :: c194 :: c195 :: c196 :: c197 :: c198 :: c199 :: c200 :: c201 :: c202 :: c203 :: c204 :: c205 :: c206 :: c207 :: c208 :: c209 :: c210 :: c211 :: c212 :: c213 :: c214 :: c215 :: c216 :: c217 :: c218 :: c219 :: c220 :: c221 :: c222 :: c223 :: c224 :: c225 :: c226 :: c227 :: c228 :: c229 :: c230 :: c231 :: c232 :: c233 :: c234 :: c235 :: c236 :: c237 :: c238 :: c239 :: c240 :: c241 :: c242 :: c243 :: c244 :: c245 :: c246 :: c247 :: c248 :: c249 :: c250 :: c251 :: c252 :: c253 :: c254 :: c255 :: c256 :: c257 :: c258 :: c259 :: c260 :: c261 :: c262 :: c263 :: c264 :: c265 :: c266 :: c267 :: c268 :: c269 :: c270 :: c271 :: c272 :: c273 :: c274 :: c275 :: c276 :: c277 :: c278 :: c279 :: c280 :: c281 :: c282 :: c283 :: c284 :: c285 :: c286 :: u287 :: u288 :: u289 :: u290 :: u291 :: u292 :: u293 :: u294 :: u295 :: u296 :: u297 :: u298 :: c299 :: c300 :: c301 :: []).toArray, []⟩ w') :
    (codeBlock 22 Tryz.f110).wp Tryz.prog Q ⟨(c0 :: c1 :: c2 :: c3 :: c4 :: c5 :: c6 :: c7 :: c8 :: c9 :: c10 :: c11 :: c12 :: c13 :: c14 :: c15 :: c16 :: c17 :: c18 :: c19 :: c20 :: c21 :: c22 :: c23 :: c24 :: v0 :: c26 :: .int .u32 x :: .int .i64 3 :: c29 :: c30 :: c31 :: c32 :: c33 :: c34 :: c35 :: c36 :: c37 :: c38 :: c39 :: c40 :: c41 :: c42 :: c43 :: c44 :: c45 :: c46 :: c47 :: c48 :: c49 :: c50 :: c51 :: c52 :: c53 :: c54 :: c55 :: c56 :: c57 :: c58 :: c59 :: c60 :: c61 :: c62 :: c63 :: c64 :: c65 :: c66 :: c67 :: c68 :: c69 :: c70 :: c71 :: c72 :: c73 :: c74 :: c75 :: c76 :: c77 :: c78 :: c79 :: c80 :: c81 :: c82 :: c83 :: c84 :: c85 :: c86 :: c87 :: c88 :: c89 :: c90 :: c91 :: c92 :: c93 :: c94 :: c95 :: c96 :: c97 :: c98 :: c99 :: c100 :: c101 :: c102 :: c103 :: c104 :: c105 :: c106 :: c107 :: c108 :: c109 :: c110 :: c111 :: c112 :: c113 :: c114 :: c115 :: c116 :: c117 :: c118 :: c119 :: c120 :: c121 :: c122 :: c123 :: c124 :: c125 :: c126 :: c127 :: c128 :: c129 :: c130 :: c131 :: c132 :: c133 :: c134 :: c135 :: c136 :: c137 :: c138 :: c139 :: c140 :: c141 :: c142 :: c143 :: c144 :: c145 :: c146 :: c147 :: c148 :: c149 :: c150 :: c151 :: c152 :: c153 :: c154 :: c155 :: c156 :: c157 :: c158 :: c159 :: c160 :: c161 :: c162 :: c163 :: c164 :: c165 :: c166 :: c167 :: c168 :: c169 :: c170 :: c171 :: c172 :: c173 :: c174 :: c175 :: c176 :: c177 :: c178 :: c179 :: c180 :: c181 :: c182 :: c183 :: c184 :: c185 :: c186 :: c187 :: c188 :: c189 :: c190 :: c191 :: c192 :: c193 :: c194 :: c195 :: c196 :: c197 :: c198 :: c199 :: c200 :: c201 :: c202 :: c203 :: c204 :: c205 :: c206 :: c207 :: c208 :: c209 :: c210 :: c211 :: c212 :: c213 :: c214 :: c215 :: c216 :: c217 :: c218 :: c219 :: c220 :: c221 :: c222 :: c223 :: c224 :: c225 :: c226 :: c227 :: c228 :: c229 :: c230 :: c231 :: c232 :: c233 :: c234 :: c235 :: c236 :: c237 :: c238 :: c239 :: c240 :: c241 :: c242 :: c243 :: c244 :: c245 :: c246 :: c247 :: c248 :: c249 :: c250 :: c251 :: c252 :: c253 :: c254 :: c255 :: c256 :: c257 :: c258 :: c259 :: c260 :: c261 :: c262 :: c263 :: c264 :: c265 :: c266 :: c267 :: c268 :: c269 :: c270 :: c271 :: c272 :: c273 :: c274 :: c275 :: c276 :: c277 :: c278 :: c279 :: c280 :: c281 :: c282 :: c283 :: c284 :: c285 :: c286 :: i287 :: i288 :: i289 :: i290 :: i291 :: i292 :: i293 :: i294 :: i295 :: i296 :: i297 :: i298 :: c299 :: c300 :: c301 :: []).toArray, []⟩ w := by
  conv => arg 2; whnf
  obtain ⟨i0, hi, hz0, hz1, hz2⟩ := info_parts Tryz.infoByte
  go_wp2_with fail
  go_loopw [25, 28] (fun v i wr => ∃ q : Nat, q ≤ 4 ∧ i = .int .i64 (3 - q) ∧ wr.ownsRow B 5 1 v (l.length + q) (Lib.byteCells (l ++ outw32 x q)) ∧ Below B w wr) (fun _ i _ => (intOf i + 1).toNat)
  case atStart => exact ⟨0, by omega, rfl, by simpa [outw32] using hown0, Below.refl _ _⟩
  case round =>
    clear hown0
    obtain ⟨q, hq, rfl, hown, hb⟩ := hrel
    by_cases hq4 : q < 4
    · go_wp2_with (at_builtin; refine wpList_append_own _ rfl _ _ 30 rfl B 5 i0 (.int .u8 0) 1 1 Tryz.underlying30 hi hz0 hz1 hz2 rfl (by decide) _ _ _ rfl (hown.alloc _) ⟨wr.heap.size, 0, none⟩ 1 1 [.int .u8 (x / 2 ^ (8 * (3 - q)) % 256)] rfl rfl (by intro j u hj; match j, hj with | 0, hj => simp at hj; subst hj; simp [Addr.add]) (by intro u hu; simp at hu; subst hu; rfl) (by unfold maxLen; omega) (by omega) (by have := hb.size; simp; omega) ?_)
      intro v1 w1 hown1 hgrow1 _
      have hb1 : Below B w w1 := (hb.alloc (by have := hb.size; omega) _).grown hgrow1 (by have := hb.size; simp; omega) (fun k hk => hown.ownBlock_ge hk)
      have hown2 : w1.ownsRow B 5 1 v1 (l.length + (q + 1)) (Lib.byteCells (l ++ outw32 x (q + 1))) := by
        have h2 : 0 ≤ x / 2 ^ (8 * (3 - q)) % 256 ∧ x / 2 ^ (8 * (3 - q)) % 256 < 256 := by omega
        rw [outw32_succ, ← List.append_assoc, byteCells_snoc1 _ (by omega), ← Nat.add_assoc, Int.toNat_of_nonneg h2.1]
        exact hown1
      clear hown hown1 hgrow1 hb
      go_wp2
      go_roundw
      case rel => exact ⟨q + 1, by omega, by go_num, hown2, hb1⟩
      case measure => simp [intOf]; omega
    · obtain rfl : q = 4 := by omega
      go_wp2
      exact ⟨hown, hb⟩

set_option maxRecDepth 100000 in
set_option maxHeartbeats 4000000 in
theorem dg32_out (w : World) (B : Nat) (v0 : Value) (s : Nat → Int) (hs : ∀ i, i < 8 → 0 ≤ s i ∧ s i < 4294967296) (hown0 : w.ownsRow B 5 1 v0 0 []) (hB : B ≤ w.heap.size)
    {c0 c1 c2 c3 c4 c6 c7 c8 c9 c10 c11 c12 c13 c14 c15 c16 c17 c18 c19 c20 c21 c22 c23 c24 c26 i27 i28 c29 c30 c31 c32 c33 c34 c35 c36 c37 c38 c39 c40 c41 c42 c43 c44 c45 c46 c47 c48 c49 c50 c51 c52 c53 c54 c55 c56 c57 c58 c59 c60 c61 c62 c63 c64 c65 c66 c67 c68 c69 c70 c71 c72 c73 c74 c75 c76 c77 c78 c79 c80 c81 c82 c83 c84 c85 c86 c87 c88 c89 c90 c91 c92 c93 c94 c95 c96 c97 c98 c99 c100 c101 c102 c103 c104 c105 c106 c107 c108 c109 c110 c111 c112 c113 c114 c115 c116 c117 c118 c119 c120 c121 c122 c123 c124 c125 c126 c127 c128 c129 c130 c131 c132 c133 c134 c135 c136 c137 c138 c139 c140 c141 c142 c143 c144 c145 c146 c147 c148 c149 c150 c151 c152 c153 c154 c155 c156 c157 c158 c159 c160 c161 c162 c163 c164 c165 c166 c167 c168 c169 c170 c171 c172 c173 c174 c175 c176 c177 c178 c179 c180 c181 c182 c183 c184 c185 c186 c187 c188 c189 c190 c191 c192 c193 c194 c195 c196 c197 c198 c199 c200 c201 c202 c203 c204 c205 c206 c207 c208 c209 c210 c211 c212 c213 c214 c215 c216 c217 c218 c219 c220 c221 c222 c223 c224 c225 c226 c227 c228 c229 c230 c231 c232 c233 c234 c235 c236 c237 c238 c239 c240 c241 c242 c243 c244 c245 c246 c247 c248 c249 c250 c251 c252 c253 c254 c255 c256 c257 c258 c259 c260 c261 c262 c263 c264 c265 c266 c267 c268 c269 c270 c271 c272 c273 c274 c275 c276 c277 c278 c279 c280 i283 i284 i285 i286 i287 i288 i289 i290 i291 i292 i293 i294 i295 i296 i297 i298 i299 c300 c301 : Value}
    (Q : Exit → Act → World → Prop) (hQ : ∀ (u25 u27 u28 u282 u283 u284 u285 u286 u287 u288 u289 u290 u291 u292 u293 u294 u295 u296 u297 u298 u299 : Value) (w' : World), w'.ownsRow B 5 1 u25 32 (Lib.byteCells (out32 s 8)) ∧ Below B w w' → Q .normal ⟨(c0 :: c1 :: c2 :: c3 :: c4 :: .int .i64 4 :: c6 :: c7 :: c8 :: c9 :: c10 :: c11 :: c12 :: c13 :: c14 :: c15 :: c16 :: c17 :: c18 :: c19 :: c20 :: c21 :: c22 :: c23 :: c24 :: u25 :: c26 :: u27 :: u28 :: c29 :: c30 :: c31 :: c32 :: c33 :: c34 :: c35 :: c36 :: c37 :: c38 :: c39 :: c40 :: c41 :: c42 :: c43 :: c44 :: c45 :: c46 :: c47 :: c48 :: c49 :: c50 :: c51 :: c52 :: c53 :: c54 :: c55 :: c56 :: c57 :: c58 :: c59 :: c60 :: c61 :: c62 :: c63 :: c64 :: c65 :: c66 :: c67 :: c68 :: c69 :: c70 :: c71 :: c72 :: c73 :: c74 :: c75 :: c76 :: c77 :: c78 :: c79 :: c80 :: c81 :: c82 :: c83 :: c84 :: c85 :: c86 :: c87 :: c88 :: c89 :: c90 :: c91 :: c92 :: c93 :: c94 :: c95 :: c96 :: c97 :: c98 :: c99 :: c100 :: c101 :: c102 :: c103 :: c104 :: c105 :: c106 :: c107 :: c108 :: c109 :: c110 :: c111 :: c112 :: c113 :: c114 :: c115 :: c116 :: c117 :: c118 :: c119 :: c120 :: c121 :: c122 :: c123 :: c124 :: c125 :: c126 :: c127 :: c128 :: c129 :: c130 :: c131 :: c132 :: c133 :: c134 :: c135 :: c136 :: c137 :: c138 :: c139 :: c140 :: c141 :: c142 :: c143 :: c144 :: c145 :: c146 :: c147 :: c148 :: c149 :: c150 :: c151 :: c152 :: c153 :: c154 :: c155 :: c156 :: c157 :: c158 :: c159 :: c160 :: c161 :: c162 :: c163 :: c164 :: c165 :: c166 :: c167 :: c168 :: c169 :: c170 :: c171 :: c172 :: c173 :: c174 :: c175 :: c176 :: c177 :: c178 :: c179 :: c180 :: c181 :: c182 :: c183 :: c184 :: c185 :: c186 :: c187 :: c188 :: c189 :: c190 :: c191 :: c192 :: c193 :: c194 :: c195 :: c196 :: c197 :: c198 :: c199 :: c200 :: c201 :: c202 :: c203 :: c204 :: c205 :: c206 :: c207 :: c208 :: c209 :: c210 :: c211 :: c212 :: c213 :: c214 :: c215 :: c216 :: c217 :: c218 :: c219 :: c220 :: c221 :: c222 :: c223 :: c224 :: c225 :: c226 :: c227 :: c228 :: c229 :: c230 :: c231 :: c232 :: c233 :: c234 :: c235 :: c236 :: c237 :: c238 :: c239 :: c240 :: c241 :: c242 :: c243 :: c244 :: c245 :: c246 :: c247 :: c248 :: c249 :: c250 :: c251 :: c252 :: c253 :: c254 :: c255 :: c256 :: c257 :: c258 :: c259 :: c260 :: c261 :: c262 :: c263 :: c264 :: c265 :: c266 :: c267 :: c268 :: c269 :: c270 :: c271 :: c272 :: c273 :: c274 :: c275 :: c276 :: c277 :: c278 :: c279 :: c280 :: .agg #[.int .u32 (s 0), .int .u32 (s 1), .int .u32 (s 2), .int .u32 (s 3), .int .u32 (s 4), .int .u32 (s 5), .int .u32 (s 6), .int .u32 (s 7)] :: u282 :: u283 :: u284 :: u285 :: u286 :: u287 :: u288 :: u289 :: u290 :: u291 :: u292 :: u293 :: u294 :: u295 :: u296 :: u297 :: u298 :: u299 :: c300 :: c301 :: []).toArray, []⟩ w') :
    (codeBlock 20 Tryz.f110).wp Tryz.prog Q ⟨(c0 :: c1 :: c2 :: c3 :: c4 :: .int .i64 4 :: c6 :: c7 :: c8 :: c9 :: c10 :: c11 :: c12 :: c13 :: c14 :: c15 :: c16 :: c17 :: c18 :: c19 :: c20 :: c21 :: c22 :: c23 :: c24 :: v0 :: c26 :: i27 :: i28 :: c29 :: c30 :: c31 :: c32 :: c33 :: c34 :: c35 :: c36 :: c37 :: c38 :: c39 :: c40 :: c41 :: c42 :: c43 :: c44 :: c45 :: c46 :: c47 :: c48 :: c49 :: c50 :: c51 :: c52 :: c53 :: c54 :: c55 :: c56 :: c57 :: c58 :: c59 :: c60 :: c61 :: c62 :: c63 :: c64 :: c65 :: c66 :: c67 :: c68 :: c69 :: c70 :: c71 :: c72 :: c73 :: c74 :: c75 :: c76 :: c77 :: c78 :: c79 :: c80 :: c81 :: c82 :: c83 :: c84 :: c85 :: c86 :: c87 :: c88 :: c89 :: c90 :: c91 :: c92 :: c93 :: c94 :: c95 :: c96 :: c97 :: c98 :: c99 :: c100 :: c101 :: c102 :: c103 :: c104 :: c105 :: c106 :: c107 :: c108 :: c109 :: c110 :: c111 :: c112 :: c113 :: c114 :: c115 :: c116 :: c117 :: c118 :: c119 :: c120 :: c121 :: c122 :: c123 :: c124 :: c125 :: c126 :: c127 :: c128 :: c129 :: c130 :: c131 :: c132 :: c133 :: c134 :: c135 :: c136 :: c137 :: c138 :: c139 :: c140 :: c141 :: c142 :: c143 :: c144 :: c145 :: c146 :: c147 :: c148 :: c149 :: c150 :: c151 :: c152 :: c153 :: c154 :: c155 :: c156 :: c157 :: c158 :: c159 :: c160 :: c161 :: c162 :: c163 :: c164 :: c165 :: c166 :: c167 :: c168 :: c169 :: c170 :: c171 :: c172 :: c173 :: c174 :: c175 :: c176 :: c177 :: c178 :: c179 :: c180 :: c181 :: c182 :: c183 :: c184 :: c185 :: c186 :: c187 :: c188 :: c189 :: c190 :: c191 :: c192 :: c193 :: c194 :: c195 :: c196 :: c197 :: c198 :: c199 :: c200 :: c201 :: c202 :: c203 :: c204 :: c205 :: c206 :: c207 :: c208 :: c209 :: c210 :: c211 :: c212 :: c213 :: c214 :: c215 :: c216 :: c217 :: c218 :: c219 :: c220 :: c221 :: c222 :: c223 :: c224 :: c225 :: c226 :: c227 :: c228 :: c229 :: c230 :: c231 :: c232 :: c233 :: c234 :: c235 :: c236 :: c237 :: c238 :: c239 :: c240 :: c241 :: c242 :: c243 :: c244 :: c245 :: c246 :: c247 :: c248 :: c249 :: c250 :: c251 :: c252 :: c253 :: c254 :: c255 :: c256 :: c257 :: c258 :: c259 :: c260 :: c261 :: c262 :: c263 :: c264 :: c265 :: c266 :: c267 :: c268 :: c269 :: c270 :: c271 :: c272 :: c273 :: c274 :: c275 :: c276 :: c277 :: c278 :: c279 :: c280 :: .agg #[.int .u32 (s 0), .int .u32 (s 1), .int .u32 (s 2), .int .u32 (s 3), .int .u32 (s 4), .int .u32 (s 5), .int .u32 (s 6), .int .u32 (s 7)] :: .int .i64 0 :: i283 :: i284 :: i285 :: i286 :: i287 :: i288 :: i289 :: i290 :: i291 :: i292 :: i293 :: i294 :: i295 :: i296 :: i297 :: i298 :: i299 :: c300 :: c301 :: []).toArray, []⟩ w := by
  conv => arg 2; whnf
  go_wp2_with fail
  go_loopw [25, 282] (fun v i wr => ∃ k : Nat, k ≤ 8 ∧ i = .int .i64 k ∧ wr.ownsRow B 5 1 v (out32 s k).length (Lib.byteCells (out32 s k)) ∧ Below B w wr) (fun _ i _ => 8 - (intOf i).toNat)
  case atStart => exact ⟨0, by omega, rfl, hown0, Below.refl _ _⟩
  case round =>
    clear hown0
    obtain ⟨k, hk, rfl, hown, hb⟩ := hrel
    by_cases hk8 : k < 8
    · have hidx := idx8_32 s k hk8
      have hkd : decide ((k : Int) < 8) = true := by simp; omega
      have hx := hs k hk8
      have hBr := hb.size
      go_upto_block 22 with (fail)
      refine dg32_out1 _ B _ (out32 s k) (s k) hx.1 hx.2 (by rw [out32_length]; omega) hown (by omega) _ ?_
      intros
      rename_i w1 h1
      obtain ⟨hown1, b1⟩ := h1
      have hb2 := hb.trans b1
      have hown2 := hown1
      rw [show (out32 s k).length + 4 = (out32 s (k + 1)).length from by rw [out32_succ, List.length_append, outw32_length], ← out32_succ] at hown2
      clear hidx hown hown1 hb b1 hx
      go_wp2
      go_roundw
      case rel => exact ⟨k + 1, by omega, by go_num, hown2, hb2⟩
      case measure => simp [intOf]; omega
    · obtain rfl : k = 8 := by omega
      rw [out32_length] at hown
      go_wp2
      exact ⟨hown, hb⟩

theorem pad32_eq (l : List UInt8) : pad32 l = ((l ++ [128]) ++ List.replicate (zer32 l.length) 0) ++ lenB (l.length * 8) 8 := rfl
theorem pad32_length (l : List UInt8) : (pad32 l).length = l.length + 1 + zer32 l.length + 8 := by simp [pad32, lenB]; omega
theorem pad32_64 (l : List UInt8) : (pad32 l).length % 64 = 0 := by rw [pad32_length, zer32]; omega

set_option maxRecDepth 100000 in
set_option maxHeartbeats 4000000 in
theorem digest32_any (w : World) (ss : List ByteArray) (pa : Option Addr) (n c : Nat) (hp : Reads w w.heap.size 1 pa n (ss.map .string)) (hlen : (catS ss).length ≤ 140737488351232) (hn : n ≤ 140737488351232) (F K : Nat → Int) (hT : Tabs w F K) :
    Calls Tryz.prog 110 #[.agg #[.int .i64 32, .int .i64 64, .int .i64 2, .int .i64 13, .int .i64 22, .int .i64 6, .int .i64 11, .int .i64 25, .int .i64 7, .int .i64 18, .int .i64 3, .int .i64 17, .int .i64 19, .int .i64 10], .slice pa n c] w
      fun e w' => e = .returned (.string ⟨(digest32F F K (catS ss)).toArray⟩) ∧ Below w.heap.size w w' := by
  obtain ⟨i0, hi, hz0, hz1, hz2⟩ := info_parts Tryz.infoByte
  obtain ⟨i32, hi32, hy0, hy1, hy2⟩ := info_parts Tryz.infoU32
  have hTB' : ∀ i, i < 8 → (⟨0, i, none⟩ : Addr).block < w.heap.size := fun i hi => block_lt_of_cell (hT.1 i hi).1
  have hTB : ∀ i, i < 80 → (⟨1, i, none⟩ : Addr).block < w.heap.size := fun i hi => block_lt_of_cell (hT.2 i hi).1
  have HT := show Hid (∀ i, i < 8 → (⟨0, i, none⟩ : Addr).block < w.heap.size) from hTB'
  have HT' := show Hid (∀ i, i < 80 → (⟨1, i, none⟩ : Addr).block < w.heap.size) from hTB
  clear hTB hTB'
  go_enter Tryz.func110, Tryz.ntmps110
  go_wp2
  go_quiet (fail)
  go_upto_block 0 with (fail)
  obtain ⟨w0, hw0⟩ : ∃ w0, w0 = (w.alloc (.cells #[.int .i64 32, .int .i64 64, .int .i64 2, .int .i64 13, .int .i64 22, .int .i64 6, .int .i64 11, .int .i64 25, .int .i64 7, .int .i64 18, .int .i64 3, .int .i64 17, .int .i64 19, .int .i64 10] 158)).drewN nq := ⟨_, rfl⟩
  have hb0 : Below w.heap.size w w0 := by rw [hw0]; exact below_drewN' ((Below.refl _ _).alloc (Nat.le_refl _) _) _
  have hsh0 : Blk w0 w.heap.size 158 #[.int .i64 32, .int .i64 64, .int .i64 2, .int .i64 13, .int .i64 22, .int .i64 6, .int .i64 11, .int .i64 25, .int .i64 7, .int .i64 18, .int .i64 3, .int .i64 17, .int .i64 19, .int .i64 10] := by rw [hw0]; exact (Blk.new w 158 _).drewN nq
  rw [← hw0]
  clear hw0
  have hsl := hsh0.lt
  obtain ⟨sh, hsh⟩ : ∃ sh, sh = w.heap.size := ⟨_, rfl⟩
  rw [← hsh] at hsh0 hsl
  simp only [← hsh]
  have hshb : sh ≤ w.heap.size := by omega
  have hshb' : w.heap.size ≤ sh := by omega
  clear hsh
  refine dg32_parts w0 ss pa n c ((hp.below hb0).more (by omega)) hlen hn _ ?_
  intro v1
  intros
  rename_i w1 h1
  obtain ⟨hown1, b1⟩ := h1
  have hbw1 := hb0.trans (b1.mono (by omega))
  have hsh1 := hsh0.later b1
  have hsz1 := b1.size
  clear hsh0 b1
  obtain ⟨a8, c8, rfl⟩ := sliceLen_own hown1
  obtain ⟨B, hB⟩ : ∃ B, B = w0.heap.size := ⟨_, rfl⟩
  rw [← hB] at hown1 hsl hsz1
  clear hB
  go_wp2_with (at_builtin; refine wpList_append_own _ rfl _ _ 30 rfl B 5 i0 (.int .u8 0) 1 1 Tryz.underlying30 hi hz0 hz1 hz2 rfl (by decide) _ _ _ rfl (hown1.alloc _) ⟨w1.heap.size, 0, none⟩ 1 1 [.int .u8 128] rfl rfl (by intro j u hj; match j, hj with | 0, hj => simp at hj; subst hj; simp [Addr.add]) (by intro u hu; simp at hu; subst hu; rfl) (by unfold maxLen; omega) (by omega) (by have := hbw1.size; simp; omega) ?_)
  intro v2 w2 hown2 hgrow2 _
  have hbw2 : Below w.heap.size w w2 := (hbw1.alloc (by have := hbw1.size; omega) _).grown hgrow2 (by have := hbw1.size; simp; omega) (fun k hk => by have := hown1.ownBlock_ge hk; omega)
  have b2 : Below B w1 w2 := ((Below.refl _ _).alloc hsz1 _).grown hgrow2 (by simp; omega) (fun k hk => hown1.ownBlock_ge hk)
  have hsh2 := hsh1.below b2 (by omega)
  have hBw2 : B ≤ w2.heap.size := by have := b2.size; omega
  obtain ⟨l, hl⟩ : ∃ l, l = catS ss := ⟨_, rfl⟩
  rw [← hl] at hlen hown2 hown1
  simp only [← hl]
  have HLl : Hid (l = catS ss) := hl
  clear hl
  obtain ⟨M, hM⟩ : ∃ M, M = l ++ [128] := ⟨_, rfl⟩
  have hMl : M.length = l.length + 1 := by rw [hM]; simp
  have hownM : w2.ownsRow B 5 1 v2 M.length (Lib.byteCells M) := by rw [hMl, hM, Lib.byteCells_append]; exact hown2
  have hMl1 : M.length ≤ l.length + 1 := by omega
  have hMl2 : l.length + 1 ≤ M.length := by omega
  obtain ⟨Z, hZ⟩ : ∃ Z, Z = zer32 l.length := ⟨_, rfl⟩
  have hZ2 : Z = (120 - M.length % 64) % 64 := by rw [hZ, zer32, hMl]; omega
  have hZb : Z ≤ 63 := by omega
  have HZ : Hid (Z = zer32 l.length) := hZ
  have HZ2 : Hid (Z = (120 - M.length % 64) % 64) := hZ2
  have HM : Hid (M = l ++ [128]) := hM
  clear hown1 hown2 hgrow2 hMl hM hZ hZ2 hbw1 b2 hsh1
  go_upto_block 2 with (fail)
  refine dg32_zeros w2 B v2 M Z HZ2.out (by omega) (by omega) hownM hBw2 _ ?_
  intro v3
  intros
  rename_i w3 h3
  obtain ⟨hown3, b3⟩ := h3
  have hbw3 := hbw2.trans (b3.mono (by omega))
  have hsh3 := hsh2.below b3 (by omega)
  obtain ⟨N, hN⟩ : ∃ N, N = M ++ List.replicate Z 0 := ⟨_, rfl⟩
  have hNl : N.length = M.length + Z := by rw [hN]; simp
  rw [← hN, ← hNl] at hown3
  have HN : Hid (N = M ++ List.replicate Z 0) := hN
  have hNb : N.length ≤ l.length + 64 := by omega
  have hNp : 0 < N.length := by omega
  clear hNl hN hownM hsh2 hbw2
  have hsz3 : B ≤ w3.heap.size := by have := b3.size; omega
  clear b3 hBw2
  obtain ⟨a8, c8, rfl⟩ := sliceLen_own hown3
  go_wp2_with (at_builtin; refine wpList_append_own_zeros _ rfl _ _ 30 3 rfl B 5 i0 Tryz.underlying30 Tryz.underlying3 hi hz0 hz1 hz2 _ _ _ rfl hown3 0 rfl (by omega) (by omega) (by unfold maxLen; omega) (by omega) (by omega) ?_)
  intro v4 w4 hown4 hgrow4
  have b4 : Below B w3 w4 := (Below.refl _ _).grown hgrow4 hsz3 (fun k hk => hown3.ownBlock_ge hk)
  have hbw4 := hbw3.trans (b4.mono (by omega))
  have hsh4 := hsh3.below b4 (by omega)
  have hsz4 : B ≤ w4.heap.size := by have := b4.size; omega
  have hown4 : w4.ownsRow B 5 1 v4 N.length (Lib.byteCells N) := by simpa [zeroBytes] using hown4
  clear hown3 hgrow4 b4 hbw3 hsh3 hsz3
  go_upto_block 4 with (fail)
  refine dg32_len w4 B v4 N l.length (by omega) hown4 hsz4 _ ?_
  intro v5
  intros
  rename_i w5 h5
  obtain ⟨hown5, b5⟩ := h5
  have hbw5 := hbw4.trans (b5.mono (by omega))
  have hsh5 := hsh4.below b5 (by omega)
  have hsz5 : B ≤ w5.heap.size := by have := b5.size; omega
  obtain ⟨PD, hPD⟩ : ∃ PD, PD = pad32 l := ⟨_, rfl⟩
  have e5 : N ++ lenB (l.length * 8) 8 = PD := by rw [hPD, pad32_eq, HN.out, HM.out, HZ.out]
  have e6 : N.length + 8 = PD.length := by rw [← e5]; simp [lenB]
  rw [e5, e6] at hown5
  have hP64 : PD.length % 64 = 0 := by rw [hPD]; exact pad32_64 l
  have HP64 : Hid (PD.length % 64 = 0) := hP64
  have HPD : Hid (PD = pad32 l) := hPD
  have hPb : PD.length ≤ 140737488351332 := by omega
  have hPp : 0 < PD.length := by omega
  clear hown4 b5 hbw4 hsh4 hsz4 HN HM HZ HZ2 e5 e6 hP64 hPD hNb hNp
  obtain ⟨aP, cP, rfl⟩ := sliceLen_own hown5
  have hPc : PD.length ≤ cP := by
    rcases hown5.2 with ⟨h1, _⟩ | ⟨g, cap, cur, h1, _, _, h2, _⟩
    · injection h1; omega
    · injection h1; omega
  have hRP := Reads.of_own hown5
  have hT5 := hT.later hbw5
  have hTB' : ∀ i, i < 8 → (⟨0, i, none⟩ : Addr).block < w5.heap.size := fun i hi => by have := HT.out i hi; have := hbw5.size; simp at *; omega
  have hTB : ∀ i, i < 80 → (⟨1, i, none⟩ : Addr).block < w5.heap.size := fun i hi => by have := HT'.out i hi; have := hbw5.size; simp at *; omega
  have HT5' := show Hid (∀ i, i < 8 → (⟨0, i, none⟩ : Addr).block < w5.heap.size) from hTB'
  have HT5 := show Hid (∀ i, i < 80 → (⟨1, i, none⟩ : Addr).block < w5.heap.size) from hTB
  clear HT HT' hown5 hTB hTB' hT
  go_upto_block 6 with (fail)
  obtain ⟨w6, hw6⟩ : ∃ w6, w6 = w5.alloc (.cells #[.int .u32 0, .int .u32 0, .int .u32 0, .int .u32 0, .int .u32 0, .int .u32 0, .int .u32 0, .int .u32 0] 171) := ⟨_, rfl⟩
  have q6 : Below w5.heap.size w5 w6 := by rw [hw6]; exact (Below.refl _ _).alloc (Nat.le_refl _) _
  have hS6 : w6.rowIs w5.heap.size 171 8 (fun _ => .int .u32 0) := by rw [hw6]; exact row8_zero w5 171
  rw [← hw6]
  clear hw6
  refine dg32_first w6 w5.heap.size w5.heap.size F K (hT5.later q6) HT5'.out (Nat.le_refl _) hS6 _ ?_
  intros
  rename_i w7 h7
  obtain ⟨hS7, b7⟩ := h7
  have q7 := q6.trans b7
  have hsl7 := hS7.lt
  have hs1 : w7.cell? ⟨sh, 1, none⟩ = some (.int .i64 64) := (hsh5.later q7).cell 1
  have hmk : ∀ W : World, (Instr.makeSlice 173 (.int .i64 64) (.int .i64 64)).run Tryz.prog W = .ok (.slice (some ⟨W.heap.size, 0, none⟩) 64 64) (W.alloc (.cells (madeCells #[.int .u32 0] 64) 96)) := fun W => by
    have h := run_make_rowN (P := Tryz.prog) 173 96 i32 (.int .u32 0) Tryz.underlying173 hi32 hy0 .i64 .i64 64 64 (Nat.le_refl _) (by rw [hy2]; decide) (by decide) W
    rw [hy1] at h
    exact h
  clear q6 b7 hS6
  go_upto_block 8 with (fail)
  have hM8 := World.rowIs_made w7 (.int .u32 0) 64 96
  have hS8 := hS7.alloc (.cells (madeCells #[.int .u32 0] 64) 96)
  have q8 := q7.alloc q7.size (.cells (madeCells #[.int .u32 0] 64) 96)
  obtain ⟨w8, hw8⟩ : ∃ w8, w8 = w7.alloc (.cells (madeCells #[.int .u32 0] 64) 96) := ⟨_, rfl⟩
  rw [← hw8] at hM8 hS8 q8
  rw [← hw8]
  clear hw8 hs1 hmk q7 hS7
  refine dg32_blocks w8 w5.heap.size w7.heap.size sh w5.heap.size cP aP PD F K (Nat.le_refl _) (by omega) (by omega) hsh5.lt (hT5.later q8) HT5.out HT5'.out (hsh5.later q8) HP64.out hPb hPc (hRP.below q8) hM8 hS8 _ ?_
  intros
  rename_i w9 h9
  obtain ⟨hS9, b9⟩ := h9
  have hb9 : Below w.heap.size w w9 := hbw5.trans ((q8.trans b9).mono (by omega))
  obtain ⟨s8, hs8⟩ : ∃ s8, s8 = (blks32 F K PD (PD.length / 64)).1 := ⟨_, rfl⟩
  have hs8r : ∀ i, i < 8 → 0 ≤ s8 i ∧ s8 i < 4294967296 := by
    intro i hi; rw [hs8]; exact blks32_in F K PD (fun i hi => (hT5.1 i hi).2) _ i hi
  have hfin : digest32F F K l = out32 s8 8 := by rw [digest32F, ← HPD.out, hs8]
  rw [← hs8] at hS9
  have HF : Hid (digest32F F K l = out32 s8 8) := hfin
  have HR := show Hid (∀ i, i < 8 → 0 ≤ s8 i ∧ s8 i < 4294967296) from hs8r
  clear hs8 hfin hs8r HPD b9 q8 hS8 hM8 hRP hT5 HT5 HT5' hsh5 hbw5
  obtain ⟨sB, hsB⟩ : ∃ sB, sB = w5.heap.size := ⟨_, rfl⟩
  rw [← hsB] at hS9
  simp only [← hsB]
  clear hsB
  have S0 := hS9.cell (i := 0) (by omega)
  have S1 := hS9.cell (i := 1) (by omega)
  have S2 := hS9.cell (i := 2) (by omega)
  have S3 := hS9.cell (i := 3) (by omega)
  have S4 := hS9.cell (i := 4) (by omega)
  have S5 := hS9.cell (i := 5) (by omega)
  have S6 := hS9.cell (i := 6) (by omega)
  have S7 := hS9.cell (i := 7) (by omega)
  have hsz := hS9.lt
  have hsne : ¬ sB = w9.heap.size := by omega
  have hmk : ∀ W : World, (Instr.makeSlice 30 (.int .i64 0) (.int .i64 32)).run Tryz.prog W = .ok (.slice (some ⟨W.heap.size, 0, none⟩) 0 32) (W.alloc (.cells (madeCells #[.int .u8 0] 32) 5)) := fun W => by
    have h := run_make_rowN (P := Tryz.prog) 30 5 i0 (.int .u8 0) Tryz.underlying30 hi hz0 .i64 .i64 0 32 (by omega) (by rw [hz2]; decide) (by decide) W
    rw [hz1] at h
    exact h
  clear hS9
  go_upto_block 20 with (fail)
  have hown0 := owns_made w9 5 32
  have q0 : Below w9.heap.size w9 (w9.alloc (.cells (madeCells #[.int .u8 0] 32) 5)) := (Below.refl _ _).alloc (Nat.le_refl _) _
  clear S0 S1 S2 S3 S4 S5 S6 S7 hmk hsne
  refine dg32_out _ w9.heap.size _ s8 HR.out hown0 q0.size _ ?_
  intro v10
  intros
  rename_i w10 h10
  obtain ⟨hown10, b10⟩ := h10
  have q10 := q0.trans b10
  have hconv := run_string_of_own (P := Tryz.prog) 30 9 5 Tryz.underlying30 Tryz.underlying9 Tryz.underlying5 hown10
  clear hown0 q0 b10 hown10
  go_wp2
  go_ret
  refine ⟨?_, hb9.trans (q10.mono hb9.size)⟩
  show Ending.returned (.string ⟨(out32 s8 8).toArray⟩) = _
  rw [← HLl.out, HF.out]

set_option maxHeartbeats 1000000 in
theorem sha256_any (w : World) (ss : List ByteArray) (pa : Option Addr) (n c : Nat) (hp : Reads w w.heap.size 1 pa n (ss.map .string)) (hlen : (catS ss).length ≤ 140737488351232) (hn : n ≤ 140737488351232) (F K : Nat → Int) (hT : Tabs w F K) :
    Calls Tryz.prog 101 #[.slice pa n c] w
      fun e w' => e = .returned (.string ⟨(digest32F F K (catS ss)).toArray⟩) ∧ Below w.heap.size w w' := by
  go_enter Tryz.func101, Tryz.ntmps101
  go_wp2_with fail
  refine (digest32_any w ss pa n c hp hlen hn F K hT).mono ?_
  rintro e w' ⟨rfl, hb⟩
  go_wp2
  go_ret
  exact ⟨rfl, hb⟩
end Go.Proofs.YtipehnojibdfeaaGreat

/-
  TopGauged, the statement: for every input the call returns true and leaves the input alone.
-/
import Derived.Test.YtnfhcpnpjkefmaaTopGBaseM
import Derived.Test.YtnfhcpnpjkefmaaRows
import Derived.Test.YtnfhcpnpjkefmaaTopGaugedMA
import Derived.Test.YtnfhcpnpjkefmaaTopGaugedMB
set_option linter.unusedVariables false
set_option linter.unusedSimpArgs false
/-
  TopGauged by segments: the rest of the regions.
-/
namespace Go.Proofs.Ytnfhcpnpjkefmaa
open Go.RowKit Bal Bal.Trim Bal.Gas Bal.Wx
set_option linter.unusedVariables false
set_option linter.unusedSimpArgs false
set_option maxHeartbeats 8000000
set_option maxRecDepth 100000

theorem ne_blk {w : World} {b c : Nat} {u v : Array Value} {S T : TypeId} (h : Blk w b u S) (k : Blk w c v T) (hT : S ≠ T) : b ≠ c := by
  rintro rfl
  unfold Blk at h k
  rw [h] at k
  simp at k
  exact hT k.2
theorem mine_but {T T2 : TypeId} {B n : Nat} {w w2 : World} {v : Value} {xs : List Cell} {arr : Array Value} (h : Mine T B w v xs) (hb : But n w w2) (hn : Blk w n arr T2) (hT : T ≠ T2) : Mine T B w2 v xs := by
  obtain ⟨ad, cp, h1, h2, h3, h4, h5⟩ := h
  refine ⟨ad, cp, h1, h2, h3, h4, ?_⟩
  rcases h5 with h5 | ⟨g, cur, ha, hg, hk, ht⟩
  · exact .inl h5
  · exact .inr ⟨g, cur, ha, hg, hb.blk hk (ne_blk hk hn hT), ht⟩

theorem tg_10 {s0 s1 s2 s3 s6 s8 s9 s10 s11 s12 s13 s14 s15 s16 s17 s18 s19 s20 s21 s22 s23 s24 s25 s26 s27 s28 s29 s30 s31 s32 s33 s34 s35 s36 s37 s38 s39 s40 s41 s42 s43 s44 s45 s46 s47 s48 s49 s50 s51 s52 s53 s54 s55 s56 s57 s58 s59 s60 s61 s62 s63 s64 s65 s66 s67 s68 s69 s70 s71 s72 s73 s74 s75 s76 s77 s78 s79 s80 s81 s82 s83 s84 s85 s86 s87 s88 s89 s90 s91 s92 s93 s94 s95 s96 s97 s98 s99 s100 s101 s102 s103 s104 s105 s106 s107 s108 s109 s110 s111 s112 s113 s114 s115 s116 s117 s118 s119 s120 s121 s122 s123 s124 s125 s126 s127 s128 s129 s130 s131 s132 s133 s134 s135 s136 s137 s138 s139 s140 s141 s142 s143 s144 s145 s146 s147 s148 s149 s150 s151 s152 s153 s154 s155 s156 s157 s158 s159 s160 s161 s162 s163 s164 s165 s166 s167 s168 s169 s170 s171 s172 s173 s174 s175 s176 s177 s178 s179 s180 s181 s182 s183 s184 s185 s186 s187 s188 s189 s190 s191 s192 s193 s194 s195 s196 s197 s198 s199 s200 s201 s202 s203 s204 s205 s206 s207 s208 s209 s210 s211 s212 s213 s214 s215 s216 s217 s218 s219 s220 s221 s222 s223 s224 s225 s226 s227 s228 s229 s230 s231 s232 s233 s234 s235 s236 s237 s238 s239 s240 s241 s242 s243 s244 s245 s246 s247 s248 s249 s250 s251 s252 s253 s254 s255 s256 s257 s258 s259 s260 s261 s262 s263 s264 s265 s266 s267 s268 s269 s270 s271 s272 s273 s274 s275 s276 s277 s278 s279 s280 s281 s282 s283 s284 s285 s286 s287 s288 s289 s290 s291 s292 s293 s294 s295 s296 s297 s298 s299 s300 s301 s302 s303 s304 s305 s306 s307 s308 s309 s310 s311 s312 s313 s314 s315 s316 s317 s318 s319 s320 s321 s322 s323 s324 s325 s326 s327 s328 s329 s330 s331 s332 s333 s334 s335 s336 s337 s338 s339 s340 s341 s342 s343 s344 s345 s346 s347 s348 s349 s350 : Value} {n7 N cap : Nat} {a : Option Addr} {p : Plant} {t c : Int} {w9 : World} (C : Code) (hC : (Try.f3.body.bind fun c => regOf c 10) = some C) (Q : Exit → Act → World → Prop) (b7 : Blk w9 n7 #[.slice a N cap, .int .i64 p.bottles, .int .i64 p.inH, .int .i64 p.inA, .int .i64 p.vH, .int .i64 p.vA, .int .i64 p.lH, .int .i64 p.lA, .int .i64 p.pH, .int .i64 p.pA] 26) (h0 : 0 < N) (h12 : N ≤ 12) (ht : 0 ≤ t ∧ t ≤ 255) (hc : 0 ≤ c ∧ c ≤ 255)
    (hK : ∀  (u94 u95 u96 u97 u98 u99 u100 u101 u102 u103 : Value) (wc : World), (Kept w9 wc) → Q .normal ⟨#[s0, s1, s2, s3, .int .u8 t, .int .u8 c, s6, .pointer (some ⟨n7, 0, none⟩), s8, s9, s10, s11, s12, s13, s14, s15, s16, s17, s18, s19, .int .i64 (((c.toNat % N : Nat) : Int)), .int .i64 (((t.toNat % 50 + 1 : Nat) : Int)), s22, s23, s24, s25, s26, s27, s28, s29, s30, s31, s32, s33, s34, s35, s36, s37, s38, s39, s40, s41, s42, s43, s44, s45, s46, s47, s48, s49, s50, s51, s52, s53, s54, s55, s56, s57, s58, s59, s60, s61, s62, s63, s64, s65, s66, s67, s68, s69, s70, s71, s72, s73, s74, s75, s76, s77, s78, s79, s80, s81, s82, s83, s84, s85, s86, s87, s88, s89, s90, s91, s92, s93, u94, u95, u96, u97, u98, u99, u100, u101, u102, u103, s104, s105, s106, s107, s108, s109, s110, s111, s112, s113, s114, s115, s116, s117, s118, s119, s120, s121, s122, s123, s124, s125, s126, s127, s128, s129, s130, s131, s132, s133, s134, s135, s136, s137, s138, s139, s140, s141, s142, s143, s144, s145, s146, s147, s148, s149, s150, s151, s152, s153, s154, s155, s156, s157, s158, s159, s160, s161, s162, s163, s164, s165, s166, s167, s168, s169, s170, s171, s172, s173, s174, s175, s176, s177, s178, s179, s180, s181, s182, s183, s184, s185, s186, s187, s188, s189, s190, s191, s192, s193, s194, s195, s196, s197, s198, s199, s200, s201, s202, s203, s204, s205, s206, s207, s208, s209, s210, s211, s212, s213, s214, s215, s216, s217, s218, s219, s220, s221, s222, s223, s224, s225, s226, s227, s228, s229, s230, s231, s232, s233, s234, s235, s236, s237, s238, s239, s240, s241, s242, s243, s244, s245, s246, s247, s248, s249, s250, s251, s252, s253, s254, s255, s256, s257, s258, s259, s260, s261, s262, s263, s264, s265, s266, s267, s268, s269, s270, s271, s272, s273, s274, s275, s276, s277, s278, s279, s280, s281, s282, s283, s284, s285, s286, s287, s288, s289, s290, s291, s292, s293, s294, s295, s296, s297, s298, s299, s300, s301, s302, s303, s304, s305, s306, s307, s308, s309, s310, s311, s312, s313, s314, s315, s316, s317, s318, s319, s320, s321, s322, s323, s324, s325, s326, s327, s328, s329, s330, s331, s332, s333, s334, s335, s336, s337, s338, s339, s340, s341, s342, s343, s344, s345, s346, s347, s348, s349, s350], []⟩ wc) : C.wp Try.prog Q ⟨#[s0, s1, s2, s3, .int .u8 t, .int .u8 c, s6, .pointer (some ⟨n7, 0, none⟩), s8, s9, s10, s11, s12, s13, s14, s15, s16, s17, s18, s19, s20, s21, s22, s23, s24, s25, s26, s27, s28, s29, s30, s31, s32, s33, s34, s35, s36, s37, s38, s39, s40, s41, s42, s43, s44, s45, s46, s47, s48, s49, s50, s51, s52, s53, s54, s55, s56, s57, s58, s59, s60, s61, s62, s63, s64, s65, s66, s67, s68, s69, s70, s71, s72, s73, s74, s75, s76, s77, s78, s79, s80, s81, s82, s83, s84, s85, s86, s87, s88, s89, s90, s91, s92, s93, s94, s95, s96, s97, s98, s99, s100, s101, s102, s103, s104, s105, s106, s107, s108, s109, s110, s111, s112, s113, s114, s115, s116, s117, s118, s119, s120, s121, s122, s123, s124, s125, s126, s127, s128, s129, s130, s131, s132, s133, s134, s135, s136, s137, s138, s139, s140, s141, s142, s143, s144, s145, s146, s147, s148, s149, s150, s151, s152, s153, s154, s155, s156, s157, s158, s159, s160, s161, s162, s163, s164, s165, s166, s167, s168, s169, s170, s171, s172, s173, s174, s175, s176, s177, s178, s179, s180, s181, s182, s183, s184, s185, s186, s187, s188, s189, s190, s191, s192, s193, s194, s195, s196, s197, s198, s199, s200, s201, s202, s203, s204, s205, s206, s207, s208, s209, s210, s211, s212, s213, s214, s215, s216, s217, s218, s219, s220, s221, s222, s223, s224, s225, s226, s227, s228, s229, s230, s231, s232, s233, s234, s235, s236, s237, s238, s239, s240, s241, s242, s243, s244, s245, s246, s247, s248, s249, s250, s251, s252, s253, s254, s255, s256, s257, s258, s259, s260, s261, s262, s263, s264, s265, s266, s267, s268, s269, s270, s271, s272, s273, s274, s275, s276, s277, s278, s279, s280, s281, s282, s283, s284, s285, s286, s287, s288, s289, s290, s291, s292, s293, s294, s295, s296, s297, s298, s299, s300, s301, s302, s303, s304, s305, s306, s307, s308, s309, s310, s311, s312, s313, s314, s315, s316, s317, s318, s319, s320, s321, s322, s323, s324, s325, s326, s327, s328, s329, s330, s331, s332, s333, s334, s335, s336, s337, s338, s339, s340, s341, s342, s343, s344, s345, s346, s347, s348, s349, s350], []⟩ w9 := by
  have e0 : (Try.f3.body.bind fun c => regOf c 10) = some (.region 10 _ _) := rfl
  rw [e0] at hC
  cases hC
  clear e0
  try dsimp only at hK ⊢
  have HK := Lib.hid hK
  clear hK
  obtain ⟨t, rfl⟩ := Int.eq_ofNat_of_zero_le ht.1
  obtain ⟨c, rfl⟩ := Int.eq_ofNat_of_zero_le hc.1
  simp only [Int.toNat_natCast] at HK
  have b7c0 := b7.cell 0
  have b7f0 := b7.free 0
  have b7l := b7.lt
  simp at b7c0
  have wt := i64_w (n := (t : Int)) (by omega)
  have wc := i64_w (n := (c : Int)) (by omega)
  have mc : IntKind.i64.wrap (Int.tmod (c : Int) (N : Int)) = ((c % N : Nat) : Int) := by rw [← Int.ofNat_tmod]; exact i64_w (by have := Nat.mod_lt c h0; omega)
  have mt : IntKind.i64.wrap (Int.tmod (t : Int) 50) = ((t % 50 : Nat) : Int) := by rw [show ((50 : Int)) = ((50 : Nat) : Int) from rfl, ← Int.ofNat_tmod]; exact i64_w (by have := Nat.mod_lt t (show 0 < 50 by decide); omega)
  have wn := i64_w (n := ((t % 50 : Nat) : Int) + 1) (by have := Nat.mod_lt t (show 0 < 50 by decide); omega)
  have n0 : ((N : Int) == 0) = false := by rw [beq_eq_false_iff_ne]; omega
  have n1 : decide ((N : Int) = 0) = false := by rw [decide_eq_false_iff_not]; omega
  go_wp2
  all_goals exact HK.out  _ _ _ _ _ _ _ _ _ _ _ (by exact kpta)
  
theorem tg_cv {s0 s1 s2 s3 s4 s5 s7 s8 s9 s10 s11 s12 s13 s14 s15 s16 s17 s18 s19 s20 s21 s23 s26 s27 s28 s29 s30 s31 s32 s33 s34 s35 s36 s37 s38 s39 s40 s41 s42 s43 s44 s45 s46 s47 s48 s49 s50 s51 s52 s53 s54 s55 s56 s57 s58 s59 s60 s61 s62 s63 s64 s65 s66 s67 s68 s69 s70 s71 s72 s73 s74 s75 s76 s77 s78 s79 s80 s81 s82 s83 s84 s85 s86 s87 s88 s89 s90 s91 s92 s93 s94 s95 s96 s97 s98 s99 s100 s101 s102 s103 s104 s105 s106 s107 s108 s109 s110 s111 s112 s113 s114 s115 s116 s117 s118 s119 s120 s121 s122 s124 s125 s126 s127 s128 s129 s130 s131 s132 s133 s134 s135 s136 s137 s138 s139 s140 s141 s142 s143 s144 s145 s146 s147 s148 s149 s150 s151 s152 s153 s154 s155 s156 s157 s158 s159 s160 s161 s162 s163 s164 s165 s166 s167 s168 s169 s170 s171 s172 s173 s174 s175 s176 s177 s178 s179 s180 s181 s182 s183 s184 s185 s186 s187 s188 s189 s190 s191 s192 s193 s194 s195 s196 s197 s198 s199 s200 s201 s202 s203 s204 s205 s206 s207 s208 s209 s210 s211 s212 s213 s214 s215 s216 s217 s218 s219 s220 s221 s222 s223 s224 s225 s226 s227 s228 s229 s230 s231 s232 s233 s234 s235 s236 s237 s238 s239 s240 s241 s242 s243 s244 s245 s246 s247 s248 s249 s250 s251 s252 s253 s254 s255 s256 s257 s258 s259 s260 s261 s262 s263 s264 s265 s266 s267 s268 s269 s270 s271 s272 s273 s274 s275 s276 s277 s278 s279 s280 s281 s282 s283 s284 s285 s286 s287 s288 s289 s290 s291 s292 s293 s294 s295 s296 s297 s298 s299 s300 s301 s302 s303 s304 s305 s306 s307 s308 s309 s310 s311 s312 s313 s314 s315 s316 s317 s318 s319 s320 s321 s322 s323 s324 s325 s326 s327 s328 s329 s330 s331 s332 s333 s334 s335 s336 s337 s338 s339 s340 s341 s342 s343 s344 s345 s346 s347 s348 s349 s350 : Value} {n22 n25 nx ny cx cy : Nat} {ax ay : Option Addr} {p q : Plant} {v : Int} {z : Bool} {w9 : World} (C : Code) (hC : (Try.f3.body.bind fun c => cndOf c 123) = some C) (Q : Exit → Act → World → Prop) (b22 : Blk w9 n22 #[.slice ax nx cx, .int .i64 p.bottles, .int .i64 p.inH, .int .i64 p.inA, .int .i64 p.vH, .int .i64 p.vA, .int .i64 p.lH, .int .i64 p.lA, .int .i64 p.pH, .int .i64 p.pA] 26) (b25 : Blk w9 n25 #[.slice ay ny cy, .int .i64 q.bottles, .int .i64 q.inH, .int .i64 q.inA, .int .i64 q.vH, .int .i64 q.vA, .int .i64 q.lH, .int .i64 q.lA, .int .i64 q.pH, .int .i64 q.pA] 26) (hne : n22 ≠ n25) (hv : 0 ≤ v ∧ v < 65536)
    (hK : ∀ (g : Int) (u124 u125 u126 : Value) (wc : World), ((z = true ∧ g = v ∧ Blk wc n22 #[.slice ay ny cy, .int .i64 q.bottles, .int .i64 q.inH, .int .i64 q.inA, .int .i64 q.vH, .int .i64 q.vA, .int .i64 q.lH, .int .i64 q.lA, .int .i64 q.pH, .int .i64 q.pA] 26 ∨ z = false ∧ g = 0 ∧ Blk wc n22 #[.slice ax nx cx, .int .i64 p.bottles, .int .i64 p.inH, .int .i64 p.inA, .int .i64 p.vH, .int .i64 p.vA, .int .i64 p.lH, .int .i64 p.lA, .int .i64 p.pH, .int .i64 p.pA] 26) ∧ But n22 w9 wc) → Q .normal ⟨#[s0, s1, s2, s3, s4, s5, .int .u16 v, s7, s8, s9, s10, s11, s12, s13, s14, s15, s16, s17, s18, s19, s20, s21, .pointer (some ⟨n22, 0, none⟩), s23, .int .i64 (g), .pointer (some ⟨n25, 0, none⟩), s26, s27, s28, s29, s30, s31, s32, s33, s34, s35, s36, s37, s38, s39, s40, s41, s42, s43, s44, s45, s46, s47, s48, s49, s50, s51, s52, s53, s54, s55, s56, s57, s58, s59, s60, s61, s62, s63, s64, s65, s66, s67, s68, s69, s70, s71, s72, s73, s74, s75, s76, s77, s78, s79, s80, s81, s82, s83, s84, s85, s86, s87, s88, s89, s90, s91, s92, s93, s94, s95, s96, s97, s98, s99, s100, s101, s102, s103, s104, s105, s106, s107, s108, s109, s110, s111, s112, s113, s114, s115, s116, s117, s118, s119, s120, s121, s122, .bool z, u124, u125, u126, s127, s128, s129, s130, s131, s132, s133, s134, s135, s136, s137, s138, s139, s140, s141, s142, s143, s144, s145, s146, s147, s148, s149, s150, s151, s152, s153, s154, s155, s156, s157, s158, s159, s160, s161, s162, s163, s164, s165, s166, s167, s168, s169, s170, s171, s172, s173, s174, s175, s176, s177, s178, s179, s180, s181, s182, s183, s184, s185, s186, s187, s188, s189, s190, s191, s192, s193, s194, s195, s196, s197, s198, s199, s200, s201, s202, s203, s204, s205, s206, s207, s208, s209, s210, s211, s212, s213, s214, s215, s216, s217, s218, s219, s220, s221, s222, s223, s224, s225, s226, s227, s228, s229, s230, s231, s232, s233, s234, s235, s236, s237, s238, s239, s240, s241, s242, s243, s244, s245, s246, s247, s248, s249, s250, s251, s252, s253, s254, s255, s256, s257, s258, s259, s260, s261, s262, s263, s264, s265, s266, s267, s268, s269, s270, s271, s272, s273, s274, s275, s276, s277, s278, s279, s280, s281, s282, s283, s284, s285, s286, s287, s288, s289, s290, s291, s292, s293, s294, s295, s296, s297, s298, s299, s300, s301, s302, s303, s304, s305, s306, s307, s308, s309, s310, s311, s312, s313, s314, s315, s316, s317, s318, s319, s320, s321, s322, s323, s324, s325, s326, s327, s328, s329, s330, s331, s332, s333, s334, s335, s336, s337, s338, s339, s340, s341, s342, s343, s344, s345, s346, s347, s348, s349, s350], []⟩ wc) : C.wp Try.prog Q ⟨#[s0, s1, s2, s3, s4, s5, .int .u16 v, s7, s8, s9, s10, s11, s12, s13, s14, s15, s16, s17, s18, s19, s20, s21, .pointer (some ⟨n22, 0, none⟩), s23, .int .i64 (0), .pointer (some ⟨n25, 0, none⟩), s26, s27, s28, s29, s30, s31, s32, s33, s34, s35, s36, s37, s38, s39, s40, s41, s42, s43, s44, s45, s46, s47, s48, s49, s50, s51, s52, s53, s54, s55, s56, s57, s58, s59, s60, s61, s62, s63, s64, s65, s66, s67, s68, s69, s70, s71, s72, s73, s74, s75, s76, s77, s78, s79, s80, s81, s82, s83, s84, s85, s86, s87, s88, s89, s90, s91, s92, s93, s94, s95, s96, s97, s98, s99, s100, s101, s102, s103, s104, s105, s106, s107, s108, s109, s110, s111, s112, s113, s114, s115, s116, s117, s118, s119, s120, s121, s122, .bool z, s124, s125, s126, s127, s128, s129, s130, s131, s132, s133, s134, s135, s136, s137, s138, s139, s140, s141, s142, s143, s144, s145, s146, s147, s148, s149, s150, s151, s152, s153, s154, s155, s156, s157, s158, s159, s160, s161, s162, s163, s164, s165, s166, s167, s168, s169, s170, s171, s172, s173, s174, s175, s176, s177, s178, s179, s180, s181, s182, s183, s184, s185, s186, s187, s188, s189, s190, s191, s192, s193, s194, s195, s196, s197, s198, s199, s200, s201, s202, s203, s204, s205, s206, s207, s208, s209, s210, s211, s212, s213, s214, s215, s216, s217, s218, s219, s220, s221, s222, s223, s224, s225, s226, s227, s228, s229, s230, s231, s232, s233, s234, s235, s236, s237, s238, s239, s240, s241, s242, s243, s244, s245, s246, s247, s248, s249, s250, s251, s252, s253, s254, s255, s256, s257, s258, s259, s260, s261, s262, s263, s264, s265, s266, s267, s268, s269, s270, s271, s272, s273, s274, s275, s276, s277, s278, s279, s280, s281, s282, s283, s284, s285, s286, s287, s288, s289, s290, s291, s292, s293, s294, s295, s296, s297, s298, s299, s300, s301, s302, s303, s304, s305, s306, s307, s308, s309, s310, s311, s312, s313, s314, s315, s316, s317, s318, s319, s320, s321, s322, s323, s324, s325, s326, s327, s328, s329, s330, s331, s332, s333, s334, s335, s336, s337, s338, s339, s340, s341, s342, s343, s344, s345, s346, s347, s348, s349, s350], []⟩ w9 := by
  have e0 : (Try.f3.body.bind fun c => cndOf c 123) = some (.cond _ _ _) := rfl
  rw [e0] at hC
  cases hC
  clear e0
  try dsimp only at hK ⊢
  have HK := Lib.hid hK
  clear hK
  cases z with
  | true =>
    go_upto_region 17 with fail
    refine tg_17 _ rfl _ b22 b25 hne hv ?_
    rintro _ _ _ wc ⟨b1, h1⟩
    go_wp2
    exact HK.out _ _ _ _ _ ⟨.inl ⟨by simp, rfl, b1⟩, h1⟩
  | false =>
    go_wp2
    exact HK.out _ _ _ _ _ ⟨.inr ⟨by simp, rfl, b22⟩, But.refl _ _⟩
  
theorem tg_19 {s0 s1 s2 s3 s4 s5 s6 s8 s9 s10 s11 s12 s13 s14 s15 s16 s17 s18 s19 s20 s21 s22 s23 s24 s25 s26 s27 s28 s29 s30 s31 s32 s33 s34 s35 s36 s37 s38 s39 s40 s41 s42 s43 s44 s45 s46 s47 s48 s49 s50 s51 s52 s53 s54 s55 s56 s57 s58 s59 s60 s61 s62 s63 s64 s65 s66 s67 s68 s69 s70 s71 s72 s73 s74 s75 s76 s77 s78 s79 s80 s81 s82 s83 s84 s85 s86 s87 s88 s89 s90 s91 s92 s93 s94 s95 s96 s97 s98 s99 s100 s101 s102 s103 s104 s105 s106 s107 s108 s109 s110 s111 s112 s113 s114 s115 s116 s117 s118 s119 s120 s121 s122 s123 s124 s125 s126 s127 s128 s129 s130 s131 s132 s133 s134 s135 s136 s137 s138 s139 s140 s141 s142 s143 s144 s145 s146 s147 s148 s149 s150 s151 s152 s153 s154 s155 s156 s157 s158 s159 s160 s161 s162 s163 s164 s165 s166 s167 s168 s169 s170 s171 s172 s173 s174 s175 s176 s177 s178 s179 s180 s181 s182 s183 s184 s185 s186 s187 s188 s189 s190 s191 s192 s193 s194 s195 s196 s197 s198 s199 s200 s201 s202 s203 s204 s205 s206 s207 s208 s209 s210 s211 s212 s213 s214 s215 s216 s217 s218 s219 s220 s221 s222 s223 s224 s225 s226 s227 s228 s229 s230 s231 s232 s233 s234 s235 s236 s237 s238 s239 s240 s241 s242 s243 s244 s245 s246 s247 s248 s249 s250 s251 s252 s253 s254 s255 s256 s257 s258 s259 s260 s261 s262 s263 s264 s265 s266 s267 s268 s269 s270 s271 s272 s273 s274 s275 s276 s277 s278 s279 s280 s281 s282 s283 s284 s285 s286 s287 s288 s289 s290 s291 s292 s293 s294 s295 s296 s297 s298 s299 s300 s301 s302 s303 s304 s305 s306 s307 s308 s309 s310 s311 s312 s313 s314 s315 s316 s317 s318 s319 s320 s321 s322 s323 s324 s325 s326 s327 s328 s329 s330 s331 s332 s333 s334 s335 s336 s337 s338 s339 s340 s341 s342 s343 s344 s345 s346 s347 s348 s349 s350 : Value} {n7 N cap : Nat} {a : Option Addr} {p : Plant} {w9 : World} (C : Code) (hC : (Try.f3.body.bind fun c => regOf c 19) = some C) (Q : Exit → Act → World → Prop) (b7 : Blk w9 n7 #[.slice a N cap, .int .i64 p.bottles, .int .i64 p.inH, .int .i64 p.inA, .int .i64 p.vH, .int .i64 p.vA, .int .i64 p.lH, .int .i64 p.lA, .int .i64 p.pH, .int .i64 p.pA] 26)
    (hK : ∀  (u140 : Value) (wc : World), (Kept w9 wc) → Q .normal ⟨#[s0, s1, s2, s3, s4, s5, s6, .pointer (some ⟨n7, 0, none⟩), s8, s9, s10, s11, s12, s13, s14, s15, s16, s17, s18, s19, s20, s21, s22, s23, s24, s25, s26, s27, s28, s29, s30, s31, s32, s33, s34, s35, s36, s37, s38, s39, s40, s41, s42, s43, s44, s45, s46, s47, s48, s49, s50, s51, s52, s53, s54, s55, s56, s57, s58, s59, s60, s61, s62, s63, s64, s65, s66, s67, s68, s69, s70, s71, s72, s73, s74, s75, s76, s77, s78, s79, s80, s81, s82, s83, s84, s85, s86, s87, s88, s89, s90, s91, s92, s93, s94, s95, s96, s97, s98, s99, s100, s101, s102, s103, s104, s105, s106, s107, s108, s109, s110, s111, s112, s113, s114, s115, s116, s117, s118, s119, s120, s121, s122, s123, s124, s125, s126, s127, s128, s129, s130, s131, s132, s133, s134, s135, s136, s137, s138, s139, u140, .slice a N cap, .int .i64 ((N : Int)), .int .i64 (0), s144, s145, s146, s147, s148, s149, s150, s151, s152, s153, s154, s155, s156, s157, s158, s159, s160, s161, s162, s163, s164, s165, s166, s167, s168, s169, s170, s171, s172, s173, s174, s175, s176, s177, s178, s179, s180, s181, s182, s183, s184, s185, s186, s187, s188, s189, s190, s191, s192, s193, s194, s195, s196, s197, s198, s199, s200, s201, s202, s203, s204, s205, s206, s207, s208, s209, s210, s211, s212, s213, s214, s215, s216, s217, s218, s219, s220, s221, s222, s223, s224, s225, s226, s227, s228, s229, s230, s231, s232, s233, s234, s235, s236, s237, s238, s239, s240, s241, s242, s243, s244, s245, s246, s247, s248, s249, s250, s251, s252, s253, s254, s255, s256, s257, s258, s259, s260, s261, s262, s263, s264, s265, s266, s267, s268, s269, s270, s271, s272, s273, s274, s275, s276, s277, s278, s279, s280, s281, s282, s283, s284, s285, s286, s287, s288, s289, s290, s291, s292, s293, s294, s295, s296, s297, s298, s299, s300, s301, s302, s303, s304, s305, s306, s307, s308, s309, s310, s311, s312, s313, s314, s315, s316, s317, s318, s319, s320, s321, s322, s323, s324, s325, s326, s327, s328, s329, s330, s331, s332, s333, s334, s335, s336, s337, s338, s339, s340, s341, s342, s343, s344, s345, s346, s347, s348, s349, s350], []⟩ wc) : C.wp Try.prog Q ⟨#[s0, s1, s2, s3, s4, s5, s6, .pointer (some ⟨n7, 0, none⟩), s8, s9, s10, s11, s12, s13, s14, s15, s16, s17, s18, s19, s20, s21, s22, s23, s24, s25, s26, s27, s28, s29, s30, s31, s32, s33, s34, s35, s36, s37, s38, s39, s40, s41, s42, s43, s44, s45, s46, s47, s48, s49, s50, s51, s52, s53, s54, s55, s56, s57, s58, s59, s60, s61, s62, s63, s64, s65, s66, s67, s68, s69, s70, s71, s72, s73, s74, s75, s76, s77, s78, s79, s80, s81, s82, s83, s84, s85, s86, s87, s88, s89, s90, s91, s92, s93, s94, s95, s96, s97, s98, s99, s100, s101, s102, s103, s104, s105, s106, s107, s108, s109, s110, s111, s112, s113, s114, s115, s116, s117, s118, s119, s120, s121, s122, s123, s124, s125, s126, s127, s128, s129, s130, s131, s132, s133, s134, s135, s136, s137, s138, s139, s140, s141, s142, s143, s144, s145, s146, s147, s148, s149, s150, s151, s152, s153, s154, s155, s156, s157, s158, s159, s160, s161, s162, s163, s164, s165, s166, s167, s168, s169, s170, s171, s172, s173, s174, s175, s176, s177, s178, s179, s180, s181, s182, s183, s184, s185, s186, s187, s188, s189, s190, s191, s192, s193, s194, s195, s196, s197, s198, s199, s200, s201, s202, s203, s204, s205, s206, s207, s208, s209, s210, s211, s212, s213, s214, s215, s216, s217, s218, s219, s220, s221, s222, s223, s224, s225, s226, s227, s228, s229, s230, s231, s232, s233, s234, s235, s236, s237, s238, s239, s240, s241, s242, s243, s244, s245, s246, s247, s248, s249, s250, s251, s252, s253, s254, s255, s256, s257, s258, s259, s260, s261, s262, s263, s264, s265, s266, s267, s268, s269, s270, s271, s272, s273, s274, s275, s276, s277, s278, s279, s280, s281, s282, s283, s284, s285, s286, s287, s288, s289, s290, s291, s292, s293, s294, s295, s296, s297, s298, s299, s300, s301, s302, s303, s304, s305, s306, s307, s308, s309, s310, s311, s312, s313, s314, s315, s316, s317, s318, s319, s320, s321, s322, s323, s324, s325, s326, s327, s328, s329, s330, s331, s332, s333, s334, s335, s336, s337, s338, s339, s340, s341, s342, s343, s344, s345, s346, s347, s348, s349, s350], []⟩ w9 := by
  have e0 : (Try.f3.body.bind fun c => regOf c 19) = some (.region 19 _ _) := rfl
  rw [e0] at hC
  cases hC
  clear e0
  try dsimp only at hK ⊢
  have HK := Lib.hid hK
  clear hK
  have b7c0 := b7.cell 0
  have b7f0 := b7.free 0
  have b7l := b7.lt
  simp at b7c0
  go_wp2
  all_goals exact HK.out  _ _ (by exact kpta)
  
theorem tg_38 {s0 s1 s2 s3 s4 s5 s6 s8 s9 s10 s11 s12 s13 s14 s15 s16 s17 s18 s19 s20 s21 s22 s23 s24 s25 s26 s27 s28 s29 s30 s31 s32 s33 s34 s35 s36 s37 s38 s39 s40 s41 s42 s43 s44 s45 s46 s47 s48 s49 s50 s51 s52 s53 s54 s55 s56 s57 s58 s59 s60 s61 s62 s63 s64 s65 s66 s67 s68 s69 s70 s71 s72 s73 s74 s75 s76 s77 s78 s79 s80 s81 s82 s83 s84 s85 s86 s87 s88 s89 s90 s91 s92 s93 s94 s95 s96 s97 s98 s99 s100 s101 s102 s103 s104 s105 s106 s107 s108 s109 s110 s111 s112 s113 s114 s115 s116 s117 s118 s119 s120 s121 s122 s123 s124 s125 s126 s127 s128 s129 s130 s131 s132 s133 s134 s135 s136 s137 s138 s139 s140 s141 s142 s143 s144 s145 s146 s147 s148 s149 s150 s151 s152 s153 s154 s155 s156 s157 s158 s159 s160 s161 s162 s163 s164 s165 s166 s167 s168 s169 s170 s171 s172 s173 s174 s175 s176 s177 s178 s179 s180 s181 s182 s183 s184 s185 s186 s187 s188 s189 s190 s191 s192 s193 s194 s195 s196 s197 s198 s199 s200 s201 s202 s203 s204 s205 s206 s207 s208 s209 s210 s211 s212 s213 s214 s215 s216 s217 s218 s219 s220 s221 s222 s223 s224 s225 s226 s227 s228 s229 s230 s231 s232 s233 s234 s235 s236 s237 s238 s239 s240 s241 s242 s243 s244 s245 s246 s247 s248 s249 s250 s251 s252 s253 s254 s255 s256 s257 s258 s259 s260 s261 s262 s263 s264 s265 s266 s267 s268 s269 s270 s271 s272 s273 s274 s275 s276 s277 s278 s279 s280 s281 s282 s283 s284 s285 s286 s287 s288 s289 s290 s291 s292 s293 s294 s295 s296 s297 s298 s299 s300 s301 s302 s303 s304 s305 s306 s307 s308 s309 s310 s311 s312 s313 s314 s315 s316 s317 s318 s319 s320 s321 s322 s323 s324 s325 s326 s327 s328 s329 s330 s331 s332 s333 s334 s335 s336 s337 s338 s339 s340 s341 s342 s343 s344 s345 s346 s347 s348 s349 s350 : Value} {n7 N cap : Nat} {a : Option Addr} {p : Plant} {w9 : World} (C : Code) (hC : (Try.f3.body.bind fun c => regOf c 38) = some C) (Q : Exit → Act → World → Prop) (b7 : Blk w9 n7 #[.slice a N cap, .int .i64 p.bottles, .int .i64 p.inH, .int .i64 p.inA, .int .i64 p.vH, .int .i64 p.vA, .int .i64 p.lH, .int .i64 p.lA, .int .i64 p.pH, .int .i64 p.pA] 26)
    (hK : ∀  (u240 : Value) (wc : World), (Kept w9 wc) → Q .normal ⟨#[s0, s1, s2, s3, s4, s5, s6, .pointer (some ⟨n7, 0, none⟩), s8, s9, s10, s11, s12, s13, s14, s15, s16, s17, s18, s19, s20, s21, s22, s23, s24, s25, s26, s27, s28, s29, s30, s31, s32, s33, s34, s35, s36, s37, s38, s39, s40, s41, s42, s43, s44, s45, s46, s47, s48, s49, s50, s51, s52, s53, s54, s55, s56, s57, s58, s59, s60, s61, s62, s63, s64, s65, s66, s67, s68, s69, s70, s71, s72, s73, s74, s75, s76, s77, s78, s79, s80, s81, s82, s83, s84, s85, s86, s87, s88, s89, s90, s91, s92, s93, s94, s95, s96, s97, s98, s99, s100, s101, s102, s103, s104, s105, s106, s107, s108, s109, s110, s111, s112, s113, s114, s115, s116, s117, s118, s119, s120, s121, s122, s123, s124, s125, s126, s127, s128, s129, s130, s131, s132, s133, s134, s135, s136, s137, s138, s139, s140, s141, s142, s143, s144, s145, s146, s147, s148, s149, s150, s151, s152, s153, s154, s155, s156, s157, s158, s159, s160, s161, s162, s163, s164, s165, s166, s167, s168, s169, s170, s171, s172, s173, s174, s175, s176, s177, s178, s179, s180, s181, s182, s183, s184, s185, s186, s187, s188, s189, s190, s191, s192, s193, s194, s195, s196, s197, s198, s199, s200, s201, s202, s203, s204, s205, s206, s207, s208, s209, s210, s211, s212, s213, s214, s215, s216, s217, s218, s219, s220, s221, s222, s223, s224, s225, s226, s227, s228, s229, s230, s231, s232, s233, s234, s235, s236, s237, s238, s239, u240, .slice a N cap, .int .i64 ((N : Int)), .int .i64 (0), s244, s245, s246, s247, s248, s249, s250, s251, s252, s253, s254, s255, s256, s257, s258, s259, s260, s261, s262, s263, s264, s265, s266, s267, s268, s269, s270, s271, s272, s273, s274, s275, s276, s277, s278, s279, s280, s281, s282, s283, s284, s285, s286, s287, s288, s289, s290, s291, s292, s293, s294, s295, s296, s297, s298, s299, s300, s301, s302, s303, s304, s305, s306, s307, s308, s309, s310, s311, s312, s313, s314, s315, s316, s317, s318, s319, s320, s321, s322, s323, s324, s325, s326, s327, s328, s329, s330, s331, s332, s333, s334, s335, s336, s337, s338, s339, s340, s341, s342, s343, s344, s345, s346, s347, s348, s349, s350], []⟩ wc) : C.wp Try.prog Q ⟨#[s0, s1, s2, s3, s4, s5, s6, .pointer (some ⟨n7, 0, none⟩), s8, s9, s10, s11, s12, s13, s14, s15, s16, s17, s18, s19, s20, s21, s22, s23, s24, s25, s26, s27, s28, s29, s30, s31, s32, s33, s34, s35, s36, s37, s38, s39, s40, s41, s42, s43, s44, s45, s46, s47, s48, s49, s50, s51, s52, s53, s54, s55, s56, s57, s58, s59, s60, s61, s62, s63, s64, s65, s66, s67, s68, s69, s70, s71, s72, s73, s74, s75, s76, s77, s78, s79, s80, s81, s82, s83, s84, s85, s86, s87, s88, s89, s90, s91, s92, s93, s94, s95, s96, s97, s98, s99, s100, s101, s102, s103, s104, s105, s106, s107, s108, s109, s110, s111, s112, s113, s114, s115, s116, s117, s118, s119, s120, s121, s122, s123, s124, s125, s126, s127, s128, s129, s130, s131, s132, s133, s134, s135, s136, s137, s138, s139, s140, s141, s142, s143, s144, s145, s146, s147, s148, s149, s150, s151, s152, s153, s154, s155, s156, s157, s158, s159, s160, s161, s162, s163, s164, s165, s166, s167, s168, s169, s170, s171, s172, s173, s174, s175, s176, s177, s178, s179, s180, s181, s182, s183, s184, s185, s186, s187, s188, s189, s190, s191, s192, s193, s194, s195, s196, s197, s198, s199, s200, s201, s202, s203, s204, s205, s206, s207, s208, s209, s210, s211, s212, s213, s214, s215, s216, s217, s218, s219, s220, s221, s222, s223, s224, s225, s226, s227, s228, s229, s230, s231, s232, s233, s234, s235, s236, s237, s238, s239, s240, s241, s242, s243, s244, s245, s246, s247, s248, s249, s250, s251, s252, s253, s254, s255, s256, s257, s258, s259, s260, s261, s262, s263, s264, s265, s266, s267, s268, s269, s270, s271, s272, s273, s274, s275, s276, s277, s278, s279, s280, s281, s282, s283, s284, s285, s286, s287, s288, s289, s290, s291, s292, s293, s294, s295, s296, s297, s298, s299, s300, s301, s302, s303, s304, s305, s306, s307, s308, s309, s310, s311, s312, s313, s314, s315, s316, s317, s318, s319, s320, s321, s322, s323, s324, s325, s326, s327, s328, s329, s330, s331, s332, s333, s334, s335, s336, s337, s338, s339, s340, s341, s342, s343, s344, s345, s346, s347, s348, s349, s350], []⟩ w9 := by
  have e0 : (Try.f3.body.bind fun c => regOf c 38) = some (.region 38 _ _) := rfl
  rw [e0] at hC
  cases hC
  clear e0
  try dsimp only at hK ⊢
  have HK := Lib.hid hK
  clear hK
  have b7c0 := b7.cell 0
  have b7f0 := b7.free 0
  have b7l := b7.lt
  simp at b7c0
  go_wp2
  all_goals exact HK.out  _ _ (by exact kpta)
  
theorem tg_32 {s0 s1 s2 s3 s4 s5 s6 s7 s8 s9 s10 s11 s12 s13 s14 s15 s16 s17 s18 s19 s20 s21 s22 s23 s24 s25 s26 s28 s29 s30 s31 s32 s33 s34 s35 s36 s37 s38 s39 s40 s41 s42 s43 s44 s45 s46 s47 s48 s49 s50 s51 s52 s53 s54 s55 s56 s57 s58 s59 s60 s61 s62 s63 s64 s65 s66 s67 s68 s69 s70 s71 s72 s73 s74 s75 s76 s77 s78 s79 s80 s81 s82 s83 s84 s85 s86 s87 s88 s89 s90 s91 s92 s93 s94 s95 s96 s97 s98 s99 s100 s101 s102 s103 s104 s105 s106 s107 s108 s109 s110 s111 s112 s113 s114 s115 s116 s117 s118 s119 s120 s121 s122 s123 s124 s125 s126 s127 s128 s129 s130 s131 s132 s133 s134 s135 s136 s137 s138 s139 s140 s141 s142 s143 s144 s145 s146 s147 s148 s149 s150 s151 s152 s153 s154 s155 s156 s157 s158 s159 s160 s161 s162 s163 s164 s165 s166 s167 s168 s169 s170 s171 s172 s173 s174 s175 s176 s177 s178 s179 s180 s181 s182 s183 s184 s185 s186 s187 s188 s189 s190 s191 s192 s193 s194 s195 s196 s197 s198 s199 s200 s201 s202 s203 s204 s205 s206 s207 s208 s209 s210 s211 s212 s213 s214 s215 s216 s217 s218 s219 s220 s221 s222 s223 s224 s225 s226 s227 s228 s229 s230 s231 s232 s233 s234 s235 s236 s237 s238 s239 s240 s241 s242 s243 s244 s245 s246 s247 s248 s249 s250 s251 s252 s253 s254 s255 s256 s257 s258 s259 s260 s261 s262 s263 s264 s265 s266 s267 s268 s269 s270 s271 s272 s273 s274 s275 s276 s277 s278 s279 s280 s281 s282 s283 s284 s285 s286 s287 s288 s289 s290 s291 s292 s293 s294 s295 s296 s297 s298 s299 s300 s301 s302 s303 s304 s305 s306 s307 s308 s309 s310 s311 s312 s313 s314 s315 s316 s317 s318 s319 s320 s321 s322 s323 s324 s325 s326 s327 s328 s329 s330 s331 s332 s333 s334 s335 s336 s337 s338 s339 s340 s341 s342 s343 s344 s345 s346 s347 s348 s349 s350 : Value} {nh : Nat} {H : Hist} {s : Bal.Gas.Spot} {w9 : World} (C : Code) (hC : (Try.f3.body.bind fun c => regOf c 32) = some C) (Q : Exit → Act → World → Prop) (hh : HistAt H s w9) (bh : Blk w9 nh #[.slice s.aw H.warm.length s.cw, .slice s.ag H.gauges.length s.cg, .slice s.af H.flows.length s.cf] 52) (hE : leaksE H 0 1000000000000 = 0)
    (hK : ∀ (al : Option Addr) (cl : Nat) (u211 u212 u213 u214 u215 u216 : Value) (wc : World), (Row Sp.cells 2 wc.heap.size wc al (leaksL H 0 1000000000000) ∧ (leaksL H 0 1000000000000).length ≤ cl ∧ cl ≤ maxLen ∧ Kept w9 wc) → Q .normal ⟨#[s0, s1, s2, s3, s4, s5, s6, s7, s8, s9, s10, s11, s12, s13, s14, s15, s16, .int .i64 (0), s18, s19, s20, s21, s22, s23, s24, s25, s26, .pointer (some ⟨nh, 0, none⟩), s28, s29, s30, s31, s32, s33, .slice al (leaksL H 0 1000000000000).length cl, s35, s36, s37, s38, s39, s40, s41, s42, s43, s44, s45, s46, s47, s48, s49, s50, s51, s52, s53, s54, s55, s56, s57, s58, s59, s60, s61, s62, s63, s64, s65, s66, s67, s68, s69, s70, s71, s72, s73, s74, s75, s76, s77, s78, s79, s80, s81, s82, s83, s84, s85, s86, s87, s88, s89, s90, s91, s92, s93, s94, s95, s96, s97, s98, s99, s100, s101, s102, s103, s104, s105, s106, s107, s108, s109, s110, s111, s112, s113, s114, s115, s116, s117, s118, s119, s120, s121, s122, s123, s124, s125, s126, s127, s128, s129, s130, s131, s132, s133, s134, s135, s136, s137, s138, s139, s140, s141, s142, s143, s144, s145, s146, s147, s148, s149, s150, s151, s152, s153, s154, s155, s156, s157, s158, s159, s160, s161, s162, s163, s164, s165, s166, s167, s168, s169, s170, s171, s172, s173, s174, s175, s176, s177, s178, s179, s180, s181, s182, s183, s184, s185, s186, s187, s188, s189, s190, s191, s192, s193, s194, s195, s196, s197, s198, s199, s200, s201, s202, s203, s204, s205, s206, s207, s208, s209, s210, u211, u212, u213, u214, u215, u216, s217, s218, s219, s220, s221, s222, s223, s224, s225, s226, s227, s228, s229, s230, s231, s232, s233, s234, s235, s236, s237, s238, s239, s240, s241, s242, s243, s244, s245, s246, s247, s248, s249, s250, s251, s252, s253, s254, s255, s256, s257, s258, s259, s260, s261, s262, s263, s264, s265, s266, s267, s268, s269, s270, s271, s272, s273, s274, s275, s276, s277, s278, s279, s280, s281, s282, s283, s284, s285, s286, s287, s288, s289, s290, s291, s292, s293, s294, s295, s296, s297, s298, s299, s300, s301, s302, s303, s304, s305, s306, s307, s308, s309, s310, s311, s312, s313, s314, s315, s316, s317, s318, s319, s320, s321, s322, s323, s324, s325, s326, s327, s328, s329, s330, s331, s332, s333, s334, s335, s336, s337, s338, s339, s340, s341, s342, s343, s344, s345, s346, s347, s348, s349, s350], []⟩ wc) : C.wp Try.prog Q ⟨#[s0, s1, s2, s3, s4, s5, s6, s7, s8, s9, s10, s11, s12, s13, s14, s15, s16, s17, s18, s19, s20, s21, s22, s23, s24, s25, s26, .pointer (some ⟨nh, 0, none⟩), s28, s29, s30, s31, s32, s33, s34, s35, s36, s37, s38, s39, s40, s41, s42, s43, s44, s45, s46, s47, s48, s49, s50, s51, s52, s53, s54, s55, s56, s57, s58, s59, s60, s61, s62, s63, s64, s65, s66, s67, s68, s69, s70, s71, s72, s73, s74, s75, s76, s77, s78, s79, s80, s81, s82, s83, s84, s85, s86, s87, s88, s89, s90, s91, s92, s93, s94, s95, s96, s97, s98, s99, s100, s101, s102, s103, s104, s105, s106, s107, s108, s109, s110, s111, s112, s113, s114, s115, s116, s117, s118, s119, s120, s121, s122, s123, s124, s125, s126, s127, s128, s129, s130, s131, s132, s133, s134, s135, s136, s137, s138, s139, s140, s141, s142, s143, s144, s145, s146, s147, s148, s149, s150, s151, s152, s153, s154, s155, s156, s157, s158, s159, s160, s161, s162, s163, s164, s165, s166, s167, s168, s169, s170, s171, s172, s173, s174, s175, s176, s177, s178, s179, s180, s181, s182, s183, s184, s185, s186, s187, s188, s189, s190, s191, s192, s193, s194, s195, s196, s197, s198, s199, s200, s201, s202, s203, s204, s205, s206, s207, s208, s209, s210, s211, s212, s213, s214, s215, s216, s217, s218, s219, s220, s221, s222, s223, s224, s225, s226, s227, s228, s229, s230, s231, s232, s233, s234, s235, s236, s237, s238, s239, s240, s241, s242, s243, s244, s245, s246, s247, s248, s249, s250, s251, s252, s253, s254, s255, s256, s257, s258, s259, s260, s261, s262, s263, s264, s265, s266, s267, s268, s269, s270, s271, s272, s273, s274, s275, s276, s277, s278, s279, s280, s281, s282, s283, s284, s285, s286, s287, s288, s289, s290, s291, s292, s293, s294, s295, s296, s297, s298, s299, s300, s301, s302, s303, s304, s305, s306, s307, s308, s309, s310, s311, s312, s313, s314, s315, s316, s317, s318, s319, s320, s321, s322, s323, s324, s325, s326, s327, s328, s329, s330, s331, s332, s333, s334, s335, s336, s337, s338, s339, s340, s341, s342, s343, s344, s345, s346, s347, s348, s349, s350], []⟩ w9 := by
  have e0 : (Try.f3.body.bind fun c => regOf c 32) = some (.region 32 _ _) := rfl
  rw [e0] at hC
  cases hC
  clear e0
  try dsimp only at hK ⊢
  have HK := Lib.hid hK
  clear hK
  have KL := Lib.hid (show ∀ W, Kept w9 W → Calls Try.prog 11 #[.agg #[.slice s.aw H.warm.length s.cw, .slice s.ag H.gauges.length s.cg, .slice s.af H.flows.length s.cf], .agg #[.int .i64 0, .int .i64 1000000000000]] W fun e w' => ∃ al cl, e = .returned (.tuple #[.slice al (leaksL H 0 1000000000000).length cl, .int .i64 0]) ∧ Row Sp.cells 2 w'.heap.size w' al (leaksL H 0 1000000000000) ∧ (leaksL H 0 1000000000000).length ≤ cl ∧ cl ≤ maxLen ∧ Kept W w' from fun W hW => by
    have k_ := f_Leaks H s 0 1000000000000 W (hh.later hW)
    rw [hE] at k_
    refine k_.mono ?_
    rintro e w' ⟨v, rfl, ho, hk⟩
    obtain ⟨ad, cp, rfl, h1, h2, h3⟩ := owns_row (enc := Sp.cells) (k := 2) (fun _ => rfl) ho
    exact ⟨ad, cp, rfl, h1, h2, h3, hk⟩)
  clear hh hE
  have bhc0 := bh.cell 0
  have bhf0 := bh.free 0
  have bhc1 := bh.cell 1
  have bhf1 := bh.free 1
  have bhc2 := bh.cell 2
  have bhf2 := bh.free 2
  have bhl := bh.lt
  simp at bhc0 bhc1 bhc2
  go_wp2_with (go_at_call 11; (with_reducible refine (KL.out _ (by exact kpta)).mono ?_); rintro e w1 ⟨al, cl, rfl, hrow, hcl, hcm, hb1⟩)
  all_goals exact HK.out _ _ _ _ _ _ _ _ _ ⟨hrow.later (by exact kpta) (Nat.le_refl _), hcl, hcm, by exact kpta⟩
  
theorem tg_33 {s0 s1 s2 s3 s4 s5 s6 s7 s8 s9 s10 s11 s12 s13 s14 s15 s16 s17 s18 s19 s20 s21 s22 s23 s24 s25 s26 s28 s29 s30 s31 s32 s33 s34 s35 s36 s37 s38 s39 s40 s41 s42 s43 s44 s45 s46 s47 s48 s49 s50 s51 s52 s53 s54 s55 s56 s57 s58 s59 s60 s61 s62 s63 s64 s65 s66 s67 s68 s69 s70 s71 s72 s73 s74 s75 s76 s77 s78 s79 s80 s81 s82 s83 s84 s85 s86 s87 s88 s89 s90 s91 s92 s93 s94 s95 s96 s97 s98 s99 s100 s101 s102 s103 s104 s105 s106 s107 s108 s109 s110 s111 s112 s113 s114 s115 s116 s117 s118 s119 s120 s121 s122 s123 s124 s125 s126 s127 s128 s129 s130 s131 s132 s133 s134 s135 s136 s137 s138 s139 s140 s141 s142 s143 s144 s145 s146 s147 s148 s149 s150 s151 s152 s153 s154 s155 s156 s157 s158 s159 s160 s161 s162 s163 s164 s165 s166 s167 s168 s169 s170 s171 s172 s173 s174 s175 s176 s177 s178 s179 s180 s181 s182 s183 s184 s185 s186 s187 s188 s189 s190 s191 s192 s193 s194 s195 s196 s197 s198 s199 s200 s201 s202 s203 s204 s205 s206 s207 s208 s209 s210 s211 s212 s213 s214 s215 s216 s217 s218 s219 s220 s221 s222 s223 s224 s225 s226 s227 s228 s229 s230 s231 s232 s233 s234 s235 s236 s237 s238 s239 s240 s241 s242 s243 s244 s245 s246 s247 s248 s249 s250 s251 s252 s253 s254 s255 s256 s257 s258 s259 s260 s261 s262 s263 s264 s265 s266 s267 s268 s269 s270 s271 s272 s273 s274 s275 s276 s277 s278 s279 s280 s281 s282 s283 s284 s285 s286 s287 s288 s289 s290 s291 s292 s293 s294 s295 s296 s297 s298 s299 s300 s301 s302 s303 s304 s305 s306 s307 s308 s309 s310 s311 s312 s313 s314 s315 s316 s317 s318 s319 s320 s321 s322 s323 s324 s325 s326 s327 s328 s329 s330 s331 s332 s333 s334 s335 s336 s337 s338 s339 s340 s341 s342 s343 s344 s345 s346 s347 s348 s349 s350 : Value} {nh : Nat} {H : Hist} {s : Bal.Gas.Spot} {w9 : World} (C : Code) (hC : (Try.f3.body.bind fun c => regOf c 33) = some C) (Q : Exit → Act → World → Prop) (hh : HistAt H s w9) (bh : Blk w9 nh #[.slice s.aw H.warm.length s.cw, .slice s.ag H.gauges.length s.cg, .slice s.af H.flows.length s.cf] 52) (hE : leaksE H 0 1000000000000 = 0)
    (hK : ∀ (al : Option Addr) (cl : Nat) (u217 u218 u219 u220 u221 u222 : Value) (wc : World), (Row icell 1 wc.heap.size wc al (namedL H 0 1000000000000) ∧ (namedL H 0 1000000000000).length ≤ cl ∧ cl ≤ maxLen ∧ Kept w9 wc) → Q .normal ⟨#[s0, s1, s2, s3, s4, s5, s6, s7, s8, s9, s10, s11, s12, s13, s14, s15, s16, s17, s18, .int .i64 (0), s20, s21, s22, s23, s24, s25, s26, .pointer (some ⟨nh, 0, none⟩), s28, s29, s30, s31, s32, s33, s34, .slice al (namedL H 0 1000000000000).length cl, s36, s37, s38, s39, s40, s41, s42, s43, s44, s45, s46, s47, s48, s49, s50, s51, s52, s53, s54, s55, s56, s57, s58, s59, s60, s61, s62, s63, s64, s65, s66, s67, s68, s69, s70, s71, s72, s73, s74, s75, s76, s77, s78, s79, s80, s81, s82, s83, s84, s85, s86, s87, s88, s89, s90, s91, s92, s93, s94, s95, s96, s97, s98, s99, s100, s101, s102, s103, s104, s105, s106, s107, s108, s109, s110, s111, s112, s113, s114, s115, s116, s117, s118, s119, s120, s121, s122, s123, s124, s125, s126, s127, s128, s129, s130, s131, s132, s133, s134, s135, s136, s137, s138, s139, s140, s141, s142, s143, s144, s145, s146, s147, s148, s149, s150, s151, s152, s153, s154, s155, s156, s157, s158, s159, s160, s161, s162, s163, s164, s165, s166, s167, s168, s169, s170, s171, s172, s173, s174, s175, s176, s177, s178, s179, s180, s181, s182, s183, s184, s185, s186, s187, s188, s189, s190, s191, s192, s193, s194, s195, s196, s197, s198, s199, s200, s201, s202, s203, s204, s205, s206, s207, s208, s209, s210, s211, s212, s213, s214, s215, s216, u217, u218, u219, u220, u221, u222, s223, s224, s225, s226, s227, s228, s229, s230, s231, s232, s233, s234, s235, s236, s237, s238, s239, s240, s241, s242, s243, s244, s245, s246, s247, s248, s249, s250, s251, s252, s253, s254, s255, s256, s257, s258, s259, s260, s261, s262, s263, s264, s265, s266, s267, s268, s269, s270, s271, s272, s273, s274, s275, s276, s277, s278, s279, s280, s281, s282, s283, s284, s285, s286, s287, s288, s289, s290, s291, s292, s293, s294, s295, s296, s297, s298, s299, s300, s301, s302, s303, s304, s305, s306, s307, s308, s309, s310, s311, s312, s313, s314, s315, s316, s317, s318, s319, s320, s321, s322, s323, s324, s325, s326, s327, s328, s329, s330, s331, s332, s333, s334, s335, s336, s337, s338, s339, s340, s341, s342, s343, s344, s345, s346, s347, s348, s349, s350], []⟩ wc) : C.wp Try.prog Q ⟨#[s0, s1, s2, s3, s4, s5, s6, s7, s8, s9, s10, s11, s12, s13, s14, s15, s16, s17, s18, s19, s20, s21, s22, s23, s24, s25, s26, .pointer (some ⟨nh, 0, none⟩), s28, s29, s30, s31, s32, s33, s34, s35, s36, s37, s38, s39, s40, s41, s42, s43, s44, s45, s46, s47, s48, s49, s50, s51, s52, s53, s54, s55, s56, s57, s58, s59, s60, s61, s62, s63, s64, s65, s66, s67, s68, s69, s70, s71, s72, s73, s74, s75, s76, s77, s78, s79, s80, s81, s82, s83, s84, s85, s86, s87, s88, s89, s90, s91, s92, s93, s94, s95, s96, s97, s98, s99, s100, s101, s102, s103, s104, s105, s106, s107, s108, s109, s110, s111, s112, s113, s114, s115, s116, s117, s118, s119, s120, s121, s122, s123, s124, s125, s126, s127, s128, s129, s130, s131, s132, s133, s134, s135, s136, s137, s138, s139, s140, s141, s142, s143, s144, s145, s146, s147, s148, s149, s150, s151, s152, s153, s154, s155, s156, s157, s158, s159, s160, s161, s162, s163, s164, s165, s166, s167, s168, s169, s170, s171, s172, s173, s174, s175, s176, s177, s178, s179, s180, s181, s182, s183, s184, s185, s186, s187, s188, s189, s190, s191, s192, s193, s194, s195, s196, s197, s198, s199, s200, s201, s202, s203, s204, s205, s206, s207, s208, s209, s210, s211, s212, s213, s214, s215, s216, s217, s218, s219, s220, s221, s222, s223, s224, s225, s226, s227, s228, s229, s230, s231, s232, s233, s234, s235, s236, s237, s238, s239, s240, s241, s242, s243, s244, s245, s246, s247, s248, s249, s250, s251, s252, s253, s254, s255, s256, s257, s258, s259, s260, s261, s262, s263, s264, s265, s266, s267, s268, s269, s270, s271, s272, s273, s274, s275, s276, s277, s278, s279, s280, s281, s282, s283, s284, s285, s286, s287, s288, s289, s290, s291, s292, s293, s294, s295, s296, s297, s298, s299, s300, s301, s302, s303, s304, s305, s306, s307, s308, s309, s310, s311, s312, s313, s314, s315, s316, s317, s318, s319, s320, s321, s322, s323, s324, s325, s326, s327, s328, s329, s330, s331, s332, s333, s334, s335, s336, s337, s338, s339, s340, s341, s342, s343, s344, s345, s346, s347, s348, s349, s350], []⟩ w9 := by
  have e0 : (Try.f3.body.bind fun c => regOf c 33) = some (.region 33 _ _) := rfl
  rw [e0] at hC
  cases hC
  clear e0
  try dsimp only at hK ⊢
  have HK := Lib.hid hK
  clear hK
  have KL := Lib.hid (show ∀ W, Kept w9 W → Calls Try.prog 12 #[.agg #[.slice s.aw H.warm.length s.cw, .slice s.ag H.gauges.length s.cg, .slice s.af H.flows.length s.cf], .agg #[.int .i64 0, .int .i64 1000000000000]] W fun e w' => ∃ al cl, e = .returned (.tuple #[.slice al (namedL H 0 1000000000000).length cl, .int .i64 0]) ∧ Row icell 1 w'.heap.size w' al (namedL H 0 1000000000000) ∧ (namedL H 0 1000000000000).length ≤ cl ∧ cl ≤ maxLen ∧ Kept W w' from fun W hW => by
    have k_ := f_Named H s 0 1000000000000 W (hh.later hW)
    rw [hE] at k_
    refine k_.mono ?_
    rintro e w' ⟨v, rfl, ho, hk⟩
    obtain ⟨ad, cp, rfl, h1, h2, h3⟩ := owns_row (enc := icell) (k := 1) (fun _ => rfl) ho
    exact ⟨ad, cp, rfl, h1, h2, h3, hk⟩)
  clear hh hE
  have bhc0 := bh.cell 0
  have bhf0 := bh.free 0
  have bhc1 := bh.cell 1
  have bhf1 := bh.free 1
  have bhc2 := bh.cell 2
  have bhf2 := bh.free 2
  have bhl := bh.lt
  simp at bhc0 bhc1 bhc2
  go_wp2_with (go_at_call 12; (with_reducible refine (KL.out _ (by exact kpta)).mono ?_); rintro e w1 ⟨al, cl, rfl, hrow, hcl, hcm, hb1⟩)
  all_goals exact HK.out _ _ _ _ _ _ _ _ _ ⟨hrow.later (by exact kpta) (Nat.le_refl _), hcl, hcm, by exact kpta⟩
  
theorem tg_34 {s0 s1 s2 s3 s4 s5 s6 s8 s9 s10 s11 s12 s13 s14 s15 s16 s18 s20 s21 s22 s23 s24 s25 s26 s27 s28 s29 s30 s31 s32 s33 s35 s36 s37 s38 s39 s40 s41 s42 s43 s44 s45 s46 s47 s48 s49 s50 s51 s52 s53 s54 s55 s56 s57 s58 s59 s60 s61 s62 s63 s64 s65 s66 s67 s68 s69 s70 s71 s72 s73 s74 s75 s76 s77 s78 s79 s80 s81 s82 s83 s84 s85 s86 s87 s88 s89 s90 s91 s92 s93 s94 s95 s96 s97 s98 s99 s100 s101 s102 s103 s104 s105 s106 s107 s108 s109 s110 s111 s112 s113 s114 s115 s116 s117 s118 s119 s120 s121 s122 s123 s124 s125 s126 s127 s128 s129 s130 s131 s132 s133 s134 s135 s136 s137 s138 s139 s140 s141 s142 s143 s144 s145 s146 s147 s148 s149 s150 s151 s152 s153 s154 s155 s156 s157 s158 s159 s160 s161 s162 s163 s164 s165 s166 s167 s168 s169 s170 s171 s172 s173 s174 s175 s176 s177 s178 s179 s180 s181 s182 s183 s184 s185 s186 s187 s188 s189 s190 s191 s192 s193 s194 s195 s196 s197 s198 s199 s200 s201 s202 s203 s204 s205 s206 s207 s208 s209 s210 s211 s212 s213 s214 s215 s216 s217 s218 s219 s220 s221 s222 s223 s224 s225 s226 s227 s228 s229 s230 s231 s232 s233 s234 s235 s236 s237 s238 s239 s240 s241 s242 s243 s244 s245 s246 s247 s248 s249 s250 s251 s252 s253 s254 s255 s256 s257 s258 s259 s260 s261 s262 s263 s264 s265 s266 s267 s268 s269 s270 s271 s272 s273 s274 s275 s276 s277 s278 s279 s280 s281 s282 s283 s284 s285 s286 s287 s288 s289 s290 s291 s292 s293 s294 s295 s296 s297 s298 s299 s300 s301 s302 s303 s304 s305 s306 s307 s308 s309 s310 s311 s312 s313 s314 s315 s316 s317 s318 s319 s320 s321 s322 s323 s324 s325 s326 s327 s328 s329 s330 s331 s332 s333 s334 s335 s336 s337 s338 s339 s340 s341 s342 s343 s344 s345 s346 s347 s348 s349 s350 : Value} {n7 N M cap cl : Nat} {a al : Option Addr} {p : Plant} {w9 : World} (C : Code) (hC : (Try.f3.body.bind fun c => regOf c 34) = some C) (Q : Exit → Act → World → Prop) (b7 : Blk w9 n7 #[.slice a N cap, .int .i64 p.bottles, .int .i64 p.inH, .int .i64 p.inA, .int .i64 p.vH, .int .i64 p.vA, .int .i64 p.lH, .int .i64 p.lA, .int .i64 p.pH, .int .i64 p.pA] 26) (hM : M = N)
    (hK : ∀  (u223 u224 u225 u226 u227 u228 u229 u230 u231 u232 u233 u234 u235 : Value) (wc : World), (Kept w9 wc) → Q .normal ⟨#[s0, s1, s2, s3, s4, s5, s6, .pointer (some ⟨n7, 0, none⟩), s8, s9, s10, s11, s12, s13, s14, s15, s16, .int .i64 (0), s18, .int .i64 (0), s20, s21, s22, s23, s24, s25, s26, s27, s28, s29, s30, s31, s32, s33, .slice al M cl, s35, s36, s37, s38, s39, s40, s41, s42, s43, s44, s45, s46, s47, s48, s49, s50, s51, s52, s53, s54, s55, s56, s57, s58, s59, s60, s61, s62, s63, s64, s65, s66, s67, s68, s69, s70, s71, s72, s73, s74, s75, s76, s77, s78, s79, s80, s81, s82, s83, s84, s85, s86, s87, s88, s89, s90, s91, s92, s93, s94, s95, s96, s97, s98, s99, s100, s101, s102, s103, s104, s105, s106, s107, s108, s109, s110, s111, s112, s113, s114, s115, s116, s117, s118, s119, s120, s121, s122, s123, s124, s125, s126, s127, s128, s129, s130, s131, s132, s133, s134, s135, s136, s137, s138, s139, s140, s141, s142, s143, s144, s145, s146, s147, s148, s149, s150, s151, s152, s153, s154, s155, s156, s157, s158, s159, s160, s161, s162, s163, s164, s165, s166, s167, s168, s169, s170, s171, s172, s173, s174, s175, s176, s177, s178, s179, s180, s181, s182, s183, s184, s185, s186, s187, s188, s189, s190, s191, s192, s193, s194, s195, s196, s197, s198, s199, s200, s201, s202, s203, s204, s205, s206, s207, s208, s209, s210, s211, s212, s213, s214, s215, s216, s217, s218, s219, s220, s221, s222, u223, u224, u225, u226, u227, u228, u229, u230, u231, u232, u233, u234, u235, .bool false, s237, s238, s239, s240, s241, s242, s243, s244, s245, s246, s247, s248, s249, s250, s251, s252, s253, s254, s255, s256, s257, s258, s259, s260, s261, s262, s263, s264, s265, s266, s267, s268, s269, s270, s271, s272, s273, s274, s275, s276, s277, s278, s279, s280, s281, s282, s283, s284, s285, s286, s287, s288, s289, s290, s291, s292, s293, s294, s295, s296, s297, s298, s299, s300, s301, s302, s303, s304, s305, s306, s307, s308, s309, s310, s311, s312, s313, s314, s315, s316, s317, s318, s319, s320, s321, s322, s323, s324, s325, s326, s327, s328, s329, s330, s331, s332, s333, s334, s335, s336, s337, s338, s339, s340, s341, s342, s343, s344, s345, s346, s347, s348, s349, s350], []⟩ wc) : C.wp Try.prog Q ⟨#[s0, s1, s2, s3, s4, s5, s6, .pointer (some ⟨n7, 0, none⟩), s8, s9, s10, s11, s12, s13, s14, s15, s16, .int .i64 (0), s18, .int .i64 (0), s20, s21, s22, s23, s24, s25, s26, s27, s28, s29, s30, s31, s32, s33, .slice al M cl, s35, s36, s37, s38, s39, s40, s41, s42, s43, s44, s45, s46, s47, s48, s49, s50, s51, s52, s53, s54, s55, s56, s57, s58, s59, s60, s61, s62, s63, s64, s65, s66, s67, s68, s69, s70, s71, s72, s73, s74, s75, s76, s77, s78, s79, s80, s81, s82, s83, s84, s85, s86, s87, s88, s89, s90, s91, s92, s93, s94, s95, s96, s97, s98, s99, s100, s101, s102, s103, s104, s105, s106, s107, s108, s109, s110, s111, s112, s113, s114, s115, s116, s117, s118, s119, s120, s121, s122, s123, s124, s125, s126, s127, s128, s129, s130, s131, s132, s133, s134, s135, s136, s137, s138, s139, s140, s141, s142, s143, s144, s145, s146, s147, s148, s149, s150, s151, s152, s153, s154, s155, s156, s157, s158, s159, s160, s161, s162, s163, s164, s165, s166, s167, s168, s169, s170, s171, s172, s173, s174, s175, s176, s177, s178, s179, s180, s181, s182, s183, s184, s185, s186, s187, s188, s189, s190, s191, s192, s193, s194, s195, s196, s197, s198, s199, s200, s201, s202, s203, s204, s205, s206, s207, s208, s209, s210, s211, s212, s213, s214, s215, s216, s217, s218, s219, s220, s221, s222, s223, s224, s225, s226, s227, s228, s229, s230, s231, s232, s233, s234, s235, s236, s237, s238, s239, s240, s241, s242, s243, s244, s245, s246, s247, s248, s249, s250, s251, s252, s253, s254, s255, s256, s257, s258, s259, s260, s261, s262, s263, s264, s265, s266, s267, s268, s269, s270, s271, s272, s273, s274, s275, s276, s277, s278, s279, s280, s281, s282, s283, s284, s285, s286, s287, s288, s289, s290, s291, s292, s293, s294, s295, s296, s297, s298, s299, s300, s301, s302, s303, s304, s305, s306, s307, s308, s309, s310, s311, s312, s313, s314, s315, s316, s317, s318, s319, s320, s321, s322, s323, s324, s325, s326, s327, s328, s329, s330, s331, s332, s333, s334, s335, s336, s337, s338, s339, s340, s341, s342, s343, s344, s345, s346, s347, s348, s349, s350], []⟩ w9 := by
  have e0 : (Try.f3.body.bind fun c => regOf c 34) = some (.region 34 _ _) := rfl
  rw [e0] at hC
  cases hC
  clear e0
  try dsimp only at hK ⊢
  have HK := Lib.hid hK
  clear hK
  subst hM
  have b7c0 := b7.cell 0
  have b7f0 := b7.free 0
  have b7l := b7.lt
  simp at b7c0
  go_wp2
  all_goals exact HK.out  _ _ _ _ _ _ _ _ _ _ _ _ _ _ (by exact kpta)
  
theorem tg_54 {s0 s1 s2 s3 s4 s5 s6 s8 s9 s10 s11 s12 s13 s14 s16 s17 s18 s19 s20 s21 s23 s24 s25 s26 s27 s28 s29 s30 s31 s32 s33 s34 s35 s37 s38 s39 s40 s41 s42 s43 s44 s45 s46 s47 s48 s49 s50 s51 s52 s53 s54 s55 s56 s57 s58 s59 s60 s61 s62 s63 s64 s65 s66 s67 s68 s69 s70 s71 s72 s73 s74 s75 s76 s77 s78 s79 s80 s81 s82 s83 s84 s85 s86 s87 s88 s89 s90 s91 s92 s93 s94 s95 s96 s97 s98 s99 s100 s101 s102 s103 s104 s105 s106 s107 s108 s109 s110 s111 s112 s113 s114 s115 s116 s117 s118 s119 s120 s121 s122 s123 s124 s125 s126 s127 s128 s129 s130 s131 s132 s133 s134 s135 s136 s137 s138 s139 s140 s141 s142 s143 s144 s145 s146 s147 s148 s149 s150 s151 s152 s153 s154 s155 s156 s157 s158 s159 s160 s161 s162 s163 s164 s165 s166 s167 s168 s169 s170 s171 s172 s173 s174 s175 s176 s177 s178 s179 s180 s181 s182 s183 s184 s185 s186 s187 s188 s189 s190 s191 s192 s193 s194 s195 s196 s197 s198 s199 s200 s201 s202 s203 s204 s205 s206 s207 s208 s209 s210 s211 s212 s213 s214 s215 s216 s217 s218 s219 s220 s221 s222 s223 s224 s225 s226 s227 s228 s229 s230 s231 s232 s233 s234 s235 s236 s237 s238 s239 s240 s241 s242 s243 s244 s245 s246 s247 s248 s249 s250 s251 s252 s253 s254 s255 s256 s257 s258 s259 s260 s261 s262 s263 s264 s265 s266 s267 s268 s269 s270 s271 s272 s273 s274 s275 s276 s277 s278 s279 s280 s281 s282 s283 s284 s285 s286 s287 s288 s289 s290 s291 s292 s293 s294 s295 s296 s297 s298 s299 s300 s301 s302 s303 s304 s305 s306 s307 s308 s309 s310 s311 s312 s313 s314 s315 s316 s317 s318 s319 s320 s321 s322 s323 s324 s325 s326 s327 s328 s329 s330 s331 s332 s333 s334 s335 s336 s337 s338 s339 s340 s341 s342 s343 s344 s345 s346 s347 s348 s349 s350 : Value} {n7 n22 N M cap cq : Nat} {a aq : Option Addr} {p q : Plant} {al : Int} {w9 : World} (C : Code) (hC : (Try.f3.body.bind fun c => regOf c 54) = some C) (Q : Exit → Act → World → Prop) (b7 : Blk w9 n7 #[.slice a N cap, .int .i64 p.bottles, .int .i64 p.inH, .int .i64 p.inA, .int .i64 p.vH, .int .i64 p.vA, .int .i64 p.lH, .int .i64 p.lA, .int .i64 p.pH, .int .i64 p.pA] 26) (b22 : Blk w9 n22 #[.slice aq M cq, .int .i64 q.bottles, .int .i64 q.inH, .int .i64 q.inA, .int .i64 q.vH, .int .i64 q.vA, .int .i64 q.lH, .int .i64 q.lA, .int .i64 q.pH, .int .i64 q.pA] 26) (hp : (0 ≤ p.lH ∧ p.lH ≤ 1000000000000) ∧ 0 ≤ p.lA ∧ p.lA ≤ 1000000000000) (hq : (0 ≤ q.lH ∧ q.lH ≤ 1000000000000) ∧ 0 ≤ q.lA ∧ q.lA ≤ 1000000000000) (hA : q.lH + q.lA - p.lH - p.lA = al)
    (hK : ∀  (u331 u332 u333 u334 u335 u336 u337 u338 u339 u340 u341 u342 u343 u344 u345 u346 u347 u348 u349 u350 : Value) (wc : World), (Kept w9 wc) → Q .normal ⟨#[s0, s1, s2, s3, s4, s5, s6, .pointer (some ⟨n7, 0, none⟩), s8, s9, s10, s11, s12, s13, .bool true, .bool true, s16, s17, s18, s19, s20, s21, .pointer (some ⟨n22, 0, none⟩), s23, s24, s25, s26, s27, s28, s29, s30, s31, s32, s33, s34, s35, .int .i64 (al), s37, s38, s39, s40, s41, s42, s43, s44, s45, s46, s47, s48, s49, s50, s51, s52, s53, s54, s55, s56, s57, s58, s59, s60, s61, s62, s63, s64, s65, s66, s67, s68, s69, s70, s71, s72, s73, s74, s75, s76, s77, s78, s79, s80, s81, s82, s83, s84, s85, s86, s87, s88, s89, s90, s91, s92, s93, s94, s95, s96, s97, s98, s99, s100, s101, s102, s103, s104, s105, s106, s107, s108, s109, s110, s111, s112, s113, s114, s115, s116, s117, s118, s119, s120, s121, s122, s123, s124, s125, s126, s127, s128, s129, s130, s131, s132, s133, s134, s135, s136, s137, s138, s139, s140, s141, s142, s143, s144, s145, s146, s147, s148, s149, s150, s151, s152, s153, s154, s155, s156, s157, s158, s159, s160, s161, s162, s163, s164, s165, s166, s167, s168, s169, s170, s171, s172, s173, s174, s175, s176, s177, s178, s179, s180, s181, s182, s183, s184, s185, s186, s187, s188, s189, s190, s191, s192, s193, s194, s195, s196, s197, s198, s199, s200, s201, s202, s203, s204, s205, s206, s207, s208, s209, s210, s211, s212, s213, s214, s215, s216, s217, s218, s219, s220, s221, s222, s223, s224, s225, s226, s227, s228, s229, s230, s231, s232, s233, s234, s235, s236, s237, s238, s239, s240, s241, s242, s243, s244, s245, s246, s247, s248, s249, s250, s251, s252, s253, s254, s255, s256, s257, s258, s259, s260, s261, s262, s263, s264, s265, s266, s267, s268, s269, s270, s271, s272, s273, s274, s275, s276, s277, s278, s279, s280, s281, s282, s283, s284, s285, s286, s287, s288, s289, s290, s291, s292, s293, s294, s295, s296, s297, s298, s299, s300, s301, s302, s303, s304, s305, s306, s307, s308, s309, s310, s311, s312, s313, s314, s315, s316, s317, s318, s319, s320, s321, s322, s323, s324, s325, s326, s327, s328, s329, s330, u331, u332, u333, u334, u335, u336, u337, u338, u339, u340, u341, u342, u343, u344, u345, u346, u347, u348, u349, u350], []⟩ wc) : C.wp Try.prog Q ⟨#[s0, s1, s2, s3, s4, s5, s6, .pointer (some ⟨n7, 0, none⟩), s8, s9, s10, s11, s12, s13, s14, .bool true, s16, s17, s18, s19, s20, s21, .pointer (some ⟨n22, 0, none⟩), s23, s24, s25, s26, s27, s28, s29, s30, s31, s32, s33, s34, s35, .int .i64 (al), s37, s38, s39, s40, s41, s42, s43, s44, s45, s46, s47, s48, s49, s50, s51, s52, s53, s54, s55, s56, s57, s58, s59, s60, s61, s62, s63, s64, s65, s66, s67, s68, s69, s70, s71, s72, s73, s74, s75, s76, s77, s78, s79, s80, s81, s82, s83, s84, s85, s86, s87, s88, s89, s90, s91, s92, s93, s94, s95, s96, s97, s98, s99, s100, s101, s102, s103, s104, s105, s106, s107, s108, s109, s110, s111, s112, s113, s114, s115, s116, s117, s118, s119, s120, s121, s122, s123, s124, s125, s126, s127, s128, s129, s130, s131, s132, s133, s134, s135, s136, s137, s138, s139, s140, s141, s142, s143, s144, s145, s146, s147, s148, s149, s150, s151, s152, s153, s154, s155, s156, s157, s158, s159, s160, s161, s162, s163, s164, s165, s166, s167, s168, s169, s170, s171, s172, s173, s174, s175, s176, s177, s178, s179, s180, s181, s182, s183, s184, s185, s186, s187, s188, s189, s190, s191, s192, s193, s194, s195, s196, s197, s198, s199, s200, s201, s202, s203, s204, s205, s206, s207, s208, s209, s210, s211, s212, s213, s214, s215, s216, s217, s218, s219, s220, s221, s222, s223, s224, s225, s226, s227, s228, s229, s230, s231, s232, s233, s234, s235, s236, s237, s238, s239, s240, s241, s242, s243, s244, s245, s246, s247, s248, s249, s250, s251, s252, s253, s254, s255, s256, s257, s258, s259, s260, s261, s262, s263, s264, s265, s266, s267, s268, s269, s270, s271, s272, s273, s274, s275, s276, s277, s278, s279, s280, s281, s282, s283, s284, s285, s286, s287, s288, s289, s290, s291, s292, s293, s294, s295, s296, s297, s298, s299, s300, s301, s302, s303, s304, s305, s306, s307, s308, s309, s310, s311, s312, s313, s314, s315, s316, s317, s318, s319, s320, s321, s322, s323, s324, s325, s326, s327, s328, s329, s330, s331, s332, s333, s334, s335, s336, s337, s338, s339, s340, s341, s342, s343, s344, s345, s346, s347, s348, s349, s350], []⟩ w9 := by
  have e0 : (Try.f3.body.bind fun c => regOf c 54) = some (.region 54 _ _) := rfl
  rw [e0] at hC
  cases hC
  clear e0
  try dsimp only at hK ⊢
  have HK := Lib.hid hK
  clear hK
  subst hA
  have b7c0 := b7.cell 0
  have b7f0 := b7.free 0
  have b7c1 := b7.cell 1
  have b7f1 := b7.free 1
  have b7c2 := b7.cell 2
  have b7f2 := b7.free 2
  have b7c3 := b7.cell 3
  have b7f3 := b7.free 3
  have b7c4 := b7.cell 4
  have b7f4 := b7.free 4
  have b7c5 := b7.cell 5
  have b7f5 := b7.free 5
  have b7c6 := b7.cell 6
  have b7f6 := b7.free 6
  have b7c7 := b7.cell 7
  have b7f7 := b7.free 7
  have b7c8 := b7.cell 8
  have b7f8 := b7.free 8
  have b7c9 := b7.cell 9
  have b7f9 := b7.free 9
  have b7l := b7.lt
  simp at b7c0 b7c1 b7c2 b7c3 b7c4 b7c5 b7c6 b7c7 b7c8 b7c9
  have b22c0 := b22.cell 0
  have b22f0 := b22.free 0
  have b22c1 := b22.cell 1
  have b22f1 := b22.free 1
  have b22c2 := b22.cell 2
  have b22f2 := b22.free 2
  have b22c3 := b22.cell 3
  have b22f3 := b22.free 3
  have b22c4 := b22.cell 4
  have b22f4 := b22.free 4
  have b22c5 := b22.cell 5
  have b22f5 := b22.free 5
  have b22c6 := b22.cell 6
  have b22f6 := b22.free 6
  have b22c7 := b22.cell 7
  have b22f7 := b22.free 7
  have b22c8 := b22.cell 8
  have b22f8 := b22.free 8
  have b22c9 := b22.cell 9
  have b22f9 := b22.free 9
  have b22l := b22.lt
  simp at b22c0 b22c1 b22c2 b22c3 b22c4 b22c5 b22c6 b22c7 b22c8 b22c9
  have w1 := i64_w (n := q.lH + q.lA) (by omega)
  have w2 := i64_w (n := q.lH + q.lA - p.lH) (by omega)
  have w3 := i64_w (n := q.lH + q.lA - p.lH - p.lA) (by omega)
  clear hp hq
  go_wp2
  all_goals exact HK.out  _ _ _ _ _ _ _ _ _ _ _ _ _ _ _ _ _ _ _ _ _ (by exact kpta)
  
end Go.Proofs.Ytnfhcpnpjkefmaa

/-
  TopGauged: the walk over the segments.
-/
namespace Go.Proofs.Ytnfhcpnpjkefmaa
open Go.RowKit Bal Bal.Trim Bal.Gas Bal.Wx
set_option linter.unusedVariables false
set_option linter.unusedSimpArgs false
set_option maxHeartbeats 8000000
set_option maxRecDepth 100000

theorem law_TopGauged (p : Plant) (a : Option Addr) (cap : Nat) (l : List Lev) (al : Option Addr) (cpl : Nat) (x0 x1 y0 y1 t cc v : Int) (w : World) (hx : Row Cell.cells 7 w.heap.size w a p.cells) (hc : p.cells.length ≤ cap) (hM : cap ≤ maxLen) (hz : a = none → cap = 0) (hr : Row Lev.cells 5 w.heap.size w al l) (hcl : l.length ≤ cpl) (hcm : cpl ≤ maxLen) (ht : 0 ≤ t ∧ t ≤ 255) (hcc : 0 ≤ cc ∧ cc ≤ 255) (hv : 0 ≤ v ∧ v < 65536) : Calls Try.prog 3 #[.agg #[.slice a p.cells.length cap, .int .i64 p.bottles, .int .i64 p.inH, .int .i64 p.inA, .int .i64 p.vH, .int .i64 p.vA, .int .i64 p.lH, .int .i64 p.lA, .int .i64 p.pH, .int .i64 p.pA], .slice al l.length cpl, .agg #[.int .i64 x0, .int .i64 x1], .agg #[.int .i64 y0, .int .i64 y1], .int .u8 t, .int .u8 cc, .int .u16 v] w fun e w' => e = .returned (.bool true) ∧ Kept w w' := by
  go_enter Try.func3, Try.ntmps3
  go_upto_region 4 with (first | (go_at_call 4; (with_reducible refine (f_alive _).mono ?_); rintro e w1 ⟨rfl, hb1⟩) | fail)
  refine at_world (S := fun X => Blk X w.heap.size #[.slice a p.cells.length cap, .int .i64 p.bottles, .int .i64 p.inH, .int .i64 p.inA, .int .i64 p.vH, .int .i64 p.vA, .int .i64 p.lH, .int .i64 p.lA, .int .i64 p.pH, .int .i64 p.pA] 26 ∧ Blk X (w.heap.size + 1) #[.int .i64 x0, .int .i64 x1] 29 ∧ Blk X (w.heap.size + 1 + 1) #[.int .i64 y0, .int .i64 y1] 29 ∧ Kept w X) ⟨by exact blkd, by exact blkd, by exact blkd, by exact kpta⟩ ?_
  rintro X ⟨b7, b9, b10, hk⟩
  clear hb1
  refine tg_4 _ rfl _ b7 (hx.later hk (Nat.le_refl _)) hc hM (hr.later hk (Nat.le_refl _)) hcl hcm ?_
  rintro v4 _ _ _ _ _ _ _ _ _ _ _ _ _ _ _ _ _ _ X1 ⟨h4, hk1⟩
  cases v4 with
  | true =>
    go_wp2
    go_ret
    exact ⟨rfl, by exact kpta⟩
  | false =>
    obtain ⟨hp, h0, h24, hs⟩ := h4 rfl
    clear h4
    have hbp := plantB_iff.1 hp
    obtain ⟨ad, rfl⟩ : ∃ ad, al = some ad := by
      have hl0 : 0 < l.length := by have := hs.n2; omega
      obtain ⟨b_, o_, e_, _⟩ := hr 0 l[0] (by simp [hl0])
      exact ⟨_, e_⟩
    go_upto_region 6 with fail
    refine tg_6 _ rfl _ (b9.keep hk1) hs ((hr.later hk (Nat.le_refl _)).later hk1 (Nat.le_refl _)) hcl ?_
    rintro n16 A E1 _ _ _ _ _ _ X2 ⟨b16, hk2⟩
    go_upto_region 7 with fail
    refine tg_7 _ rfl _ ((b10.keep hk1).keep hk2) hs (((hr.later hk (Nat.le_refl _)).later hk1 (Nat.le_refl _)).later hk2 (Nat.le_refl _)) hcl ?_
    rintro n18 B E2 _ _ _ _ _ _ X3 ⟨b18, hk3⟩
    go_upto_region 8 with fail
    refine tg_8 _ rfl _ (b16.keep hk3) b18 ?_
    rintro v8 _ _ _ _ _ _ _ _ _ _ _ _ _ _ _ X4 ⟨h8, hk4⟩
    cases v8 with
    | true =>
      go_wp2
      go_ret
      exact ⟨rfl, by exact kpta⟩
    | false =>
      obtain ⟨hA, hB⟩ := h8 rfl
      clear h8
      have b7x := (((b7.keep hk1).keep hk2).keep hk3).keep hk4
      have hkx : Kept w X4 := Kept.drop (Kept.drop (Kept.drop (Kept.drop hk hk1) hk2) hk3) hk4
      have hxx := hx.later hkx (Nat.le_refl _)
      have b16x := (b16.keep hk3).keep hk4
      have b18x := b18.keep hk4
      clear b7 b9 b10 b16 b18 hr hcl hcm h24 hs hk hk1 hk2 hk3 hk4
      go_upto_region 10 with fail
      refine tg_10 _ rfl _ b7x h0 hbp.1 ht hcc ?_
      rintro _ _ _ _ _ _ _ _ _ _ X5 hk5
      obtain ⟨k, hk_⟩ : ∃ k, k = cc.toNat % p.cells.length := ⟨_, rfl⟩
      obtain ⟨n, hn_⟩ : ∃ n, n = t.toNat % 50 + 1 := ⟨_, rfl⟩
      have hkl : k < p.cells.length := by rw [hk_]; exact Nat.mod_lt _ h0
      have n0 : 1 ≤ n := by omega
      have n1 : n ≤ 50 := by have := Nat.mod_lt t.toNat (show 0 < 50 by decide); omega
      rw [← hk_, ← hn_]
      clear hk_ hn_
      obtain ⟨t1, t2, t3⟩ := gauged_tick hp n0 n1
      go_upto_region 11 with fail
      refine tg_11 _ rfl _ (k := 0) (v := 0) (b7x.keep hk5) (hxx.later hk5 (Nat.le_refl _)) hc hM hz (by omega) t2 t1 ?_
      rintro n22 a1 c1 _ _ _ _ _ _ _ X6 ⟨b22, hm1, hs22, hk6⟩
      go_upto_region 15 with fail
      refine tg_15 _ rfl _ (p := ticks p n) (q := doQ (ticks p n) (valveD k v)) (n := 0) b22 hm1.row.2.1 hm1.row.2.2.1 hm1.row.2.2.2.1 hm1.row.2.2.2.2 hv rfl rfl ?_
      rintro n25 a2 c2 _ _ _ _ _ _ _ _ _ X7 ⟨b25, hm2, hs25, hk7⟩
      have e22 := b22.lt
      have e7 := b7x.lt
      have e16 := b16x.lt
      have e18 := b18x.lt
      have z5 := hk5.size
      have z6 := hk6.size
      have z7 := hk7.size
      have zx := hkx.size
      have hne : n22 ≠ n25 := by omega
      go_upto_if 123 with fail
      refine tg_cv _ rfl _ (b22.keep hk7) b25 hne hv ?_
      rintro g _ _ _ X8 ⟨h8, hbt⟩
      have hk8 : Kept w X8 := But.under (Kept.drop (Kept.drop (Kept.drop hkx hk5) hk6) hk7) hbt (by omega)
      have b7y := hbt.blk (((b7x.keep hk5).keep hk6).keep hk7) (by omega)
      have b16y := hbt.blk (((b16x.keep hk5).keep hk6).keep hk7) (by omega)
      have b18y := hbt.blk (((b18x.keep hk5).keep hk6).keep hk7) (by omega)
      obtain ⟨q, aq, cq, G, hg16, b22q, hmq⟩ : ∃ q aq cq, Gone p n k q g ∧ (0 ≤ g ∧ g < 65536) ∧ Blk X8 n22 #[.slice aq q.cells.length cq, .int .i64 q.bottles, .int .i64 q.inH, .int .i64 q.inA, .int .i64 q.vH, .int .i64 q.vA, .int .i64 q.lH, .int .i64 q.lA, .int .i64 q.pH, .int .i64 q.pA] 26 ∧ Mine 54 w.heap.size X8 (.slice aq q.cells.length cq) q.cells := by
        rcases h8 with ⟨hz, rfl, b⟩ | ⟨hz, rfl, b⟩
        · have hE : doE (ticks p n) (valveD k g) = 0 := by simpa using hz
          exact ⟨_, _, _, gone_valve hp n hkl hE, hv, b, (mine_but hm2 hbt (b22.keep hk7) (by decide)).base (by omega)⟩
        · exact ⟨_, _, _, gone_no hp n k, by omega, b, (mine_but (hm1.keep hk7) hbt (b22.keep hk7) (by decide)).base (by omega)⟩
      have hxy := hx.later hk8 (Nat.le_refl _)
      have hqy := hmq.row.2.1
      have hcq := hmq.row.2.2.1
      clear b7x hxx b16x b18x b22 hm1 hs22 hk5 hk6 hk7 b25 hm2 hs25 h8 hbt hx hmq hkx e22 e7 e16 e18 z5 z6 z7 zx hne t1 t2 t3
      go_upto_region 18 with fail
      refine tg_18 _ rfl _ b16y b18y hg16 ?_
      rintro nh ng nf _ _ _ _ _ _ _ _ _ _ _ _ _ X9 ⟨bh, bg, bf, ⟨s1, s2, s3⟩, hk9⟩
      have hL : LSt 29 46 52 49 X9.heap.size nh ng nf A B (n : Int) #[.int .i64 (n : Int), .int .i64 (k : Int), .int .i64 (-g)] X8 X9 (.slice none 0 0) (.slice none 0 0) (.slice none 0 0) [] [] [] := ⟨bh.lt, bg.lt, bf.lt, ⟨s3, ne_blk bf bh (by decide), ne_blk bf bg (by decide)⟩, ⟨s1, s2⟩, Nat.le_refl _, bh, bg, bf, owns_nil, owns_nil, owns_nil, ⟨Apart.none rfl, Apart.none rfl, Apart.none rfl⟩, hk9⟩
      go_upto_region 19 with fail
      refine tg_19 _ rfl _ (b7y.keep hk9) ?_
      rintro _ X10 hk10
      have hL1 := hL.keep hk10
      clear bh bg bf s1 s2 s3 hL hk9 hk10
      go_upto_block 0 with fail
      refine tg_b0 _ rfl _ (fun c a d v w h => by cases d <;> exact h) ?_ hxy hqy hcq b22q b16y b18y G.len hbp.1 (fun i hi => cell_ok hp hi) (fun i hi => cell_ok G.ok (by rw [G.len]; exact hi)) hA hB hL1 ?_
      · intro _ _ _ _ _ _ _ _ _ _ _ _ _ _ _ _ _ _ _ _ _ _ _ _ _ _ _ _ _ _ _ _ _ _ _ _ _ _ _ _ _ _ _ _ _ _ _ _ _ _ _ _ _ _ _ _ _ _ _ _ _ _ _ _ _ _ _ _ _ _ _ _ _ _ X11 hk11
        go_ret
        exact ⟨rfl, Kept.drop hk8 hk11⟩
      clear hL1 b16y b18y
      rintro vw va vb _ _ _ _ _ _ _ _ _ _ _ _ _ _ _ _ _ _ _ _ _ _ _ _ _ _ _ _ _ _ _ _ _ _ _ _ _ _ _ _ _ _ _ _ _ _ _ _ _ _ _ _ _ _ _ _ _ _ _ _ _ _ _ _ _ _ _ _ _ _ _ _ _ _ _ X11 ⟨h11, hv11⟩
      obtain ⟨H, s, hH, hvw, hag, hcg, haf, hcf, hw, hgl, hg0, hg1, hfl⟩ := h11.histAt
      have bh11 : Blk X11 nh #[.slice s.aw H.warm.length s.cw, .slice s.ag H.gauges.length s.cg, .slice s.af H.flows.length s.cf] 52 := h11.hist.cast (by simp [hisV, hvw, hag, hcg, haf, hcf, hgl, hfl])
      have hk11 := h11.kept
      have T := G.two hp hkl n0 n1 hA hB (fun i hi => (hv11 i hi).1) (fun i hi => (hv11 i hi).2) hw hgl hg0 hg1 hfl
      obtain ⟨hE, hLl, hLb⟩ := T.leaks
      have hNm := T.named
      clear h11 hv11 hvw hag hcg haf hcf hw hgl hg0 hg1 hfl
      go_upto_region 32 with fail
      refine tg_32 _ rfl _ hH bh11 hE ?_
      rintro aL cL _ _ _ _ _ _ X12 ⟨hr12, hc12, hm12, hk12⟩
      go_upto_region 33 with fail
      refine tg_33 _ rfl _ (hH.later hk12) (bh11.keep hk12) hE ?_
      rintro aN cN _ _ _ _ _ _ X13 ⟨hr13, hc13, hm13, hk13⟩
      have hk8d : Kept X8 X13 := Kept.drop (Kept.drop hk11 hk12) hk13
      have b7d := b7y.keep hk8d
      have b22d := b22q.keep hk8d
      have hkd : Kept w X13 := Kept.drop hk8 hk8d
      have hxd := hxy.later hk8d (Nat.le_refl _)
      have hqd := hqy.later hk8d (Nat.le_refl _)
      have hrL := hr12.later hk13 (Nat.le_refl _)
      clear hH bh11 hr12 hk12 hk13 hk11 hk8d b7y b22q hk8 hxy hqy
      go_upto_region 34 with fail
      refine tg_34 _ rfl _ b7d hLl ?_
      rintro _ _ _ _ _ _ _ _ _ _ _ _ _ X14 hk14
      go_upto_region 37 with fail
      refine tg_37 _ rfl _ (by rw [hLl]; exact hbp.1) ?_
      rintro nl _ _ _ X15 ⟨bl, hnl, hk15⟩
      go_upto_region 38 with fail
      refine tg_38 _ rfl _ ((b7d.keep hk14).keep hk15) ?_
      rintro _ X16 hk16
      have z14 := hk14.size
      have hk0 : Kept X13 X16 := Kept.drop (Kept.drop hk14 hk15) hk16
      have bl1 := bl.keep hk16
      clear bl hk14 hk15 hk16
      go_upto_block 2 with fail
      refine tg_b2 _ rfl _ hLl hk0 (by omega) hxd hqd b22d hrL bl1 G.len hbp.1 (fun i hi => cell_ok hp hi) (fun i hi => cell_ok G.ok (by rw [G.len]; exact hi)) (fun i hi => ⟨G.lost0 i hi, (T.amt hi).2.2⟩) (fun i hi => (T.alls i hi).1) ⟨G.g0, G.g1⟩ hLl hLb ?_
      rintro _ _ _ _ _ _ _ _ _ _ _ _ _ _ _ _ _ _ _ _ _ _ _ _ _ _ _ _ _ _ _ _ _ _ _ _ _ _ _ _ _ _ _ _ _ _ _ _ _ _ _ _ _ _ _ _ _ _ _ _ _ _ _ _ _ _ _ _ _ X17 ⟨bl2, hk17⟩
      clear hk0 bl1 hxd hqd hrL hLb hnl z14
      go_upto_block 4 with fail
      refine tg_b4 _ rfl _ (by rw [lostL_len]; exact hLl.symm) (by rw [hLl]; exact hbp.1) (fun i hi => ?_) hc13 hm13 (hr13.later hk17 (Nat.le_refl _)) bl2 ?_
      · obtain ⟨j, h1, h2, h3⟩ := hNm i hi
        exact ⟨j, by rw [lostL_len]; exact h1, h2, by rw [lostL_get _ _ _ _ h1]; exact h3⟩
      rintro _ _ _ _ _ _ _ _ _ _ _ _ _ _ _ _ _ _ _ _ _ _ X18 ⟨_, hk18⟩
      clear bl2 hNm hr13 hc13 hm13 hc12 hm12
      have hbq := plantB_iff.1 G.ok
      go_upto_region 54 with fail
      refine tg_54 _ rfl _ ((b7d.keep hk17).keep hk18) ((b22d.keep hk17).keep hk18) hbp.2.2.2.2.1 hbq.2.2.2.2.1 G.all ?_
      rintro _ _ _ _ _ _ _ _ _ _ _ _ _ _ _ _ _ _ _ _ X19 hk19
      go_wp2
      go_ret
      exact ⟨rfl, Kept.drop (Kept.drop (Kept.drop hkd hk17) hk18) hk19⟩
  

end Go.Proofs.Ytnfhcpnpjkefmaa

/-
  Levels as they come in.
-/
namespace Go.Proofs.Ytnfhcpnpjkefmaa
open Go.RowKit Go.WideShapes Bal Bal.Trim Bal.Gas Bal.Wx
set_option linter.unusedVariables false
set_option linter.unusedSimpArgs false
set_option maxHeartbeats 400000

theorem Lev_of_leaves {cs : List Value} (h : LeavesOk [.int .i64, .int .i64, .int .i64, .int .i64, .int .i64] cs) : ∃ x : Lev, cs = x.cells ∧ True := by
  obtain ⟨hl, h⟩ := h
  match cs, hl with
  | [v0, v1, v2, v3, v4], _ =>
    obtain ⟨_, e0, n0, rfl, w0⟩ := h 0 (.int .i64) rfl; simp at e0; subst e0
    obtain ⟨_, e1, n1, rfl, w1⟩ := h 1 (.int .i64) rfl; simp at e1; subst e1
    obtain ⟨_, e2, n2, rfl, w2⟩ := h 2 (.int .i64) rfl; simp at e2; subst e2
    obtain ⟨_, e3, n3, rfl, w3⟩ := h 3 (.int .i64) rfl; simp at e3; subst e3
    obtain ⟨_, e4, n4, rfl, w4⟩ := h 4 (.int .i64) rfl; simp at e4; subst e4
    exact ⟨⟨n0, n1, n2, n3, n4⟩, rfl, trivial⟩

end Go.Proofs.Ytnfhcpnpjkefmaa

/-
  TopGauged, the statement: for every input the call returns true and leaves the input alone.
-/
namespace Go.Proofs.Ytnfhcpnpjkefmaa.topGauged
open Go.ChangeShapes Go.WideShapes Go.ChangeAt Go.RowKit Bal Bal.Trim Bal.Gas Bal.Wx
open Go.ChangeMaps (open_string shut_string)
set_option linter.unusedVariables false

theorem own : ownKnob Try.prog.godebug = none := by kernel_rfl
theorem laidOut : laidOutB Try.prog = true := by kernel_rfl

set_option maxRecDepth 100000 in
theorem lifted (os : Os) (started : os.Started) (H : Type) (enc : TypeId × Value → H) :
    ReturnsInHanded {} Try.checked os 3 .any (Rows.topGaugedSpec.pre6 enc Try.prog Try.f3 Rows.topGaugedRow.domain false) (Rows.topGaugedSpec.post enc Try.prog Try.f3 false true false false) := by
  refine returnsInHanded_of_change (C := Try.checked) own started (by kernel_rfl) Try.func3
    (ChangeSpec.witness6 (enc := enc) (C := Try.checked) false ⟨#[], #[.agg #[.slice none 0 0, .int .i64 0, .int .i64 0, .int .i64 0, .int .i64 0, .int .i64 0, .int .i64 0, .int .i64 0, .int .i64 0, .int .i64 0], .slice none 0 0, .agg #[.int .i64 0, .int .i64 0], .agg #[.int .i64 0, .int .i64 0], .int .u8 0, .int .u8 0, .int .u16 0], []⟩ 8 (by kernel_rfl) (by kernel_rfl) (by kernel_rfl) (by kernel_rfl)) ?_
  intro W base args ds gs before hval0 hW hcnd _
  have hval : ∀ (j : Nat) t v, Try.f3.params[j]? = some t → args[j]? = some v → Value.okWide Try.prog W .any base t v := hval0
  have hW' := hW
  obtain ⟨p, q, hA0, hV, rfl, hfz, hnd⟩ := hW
  have hA : DataW.TrodAll enc Try.prog W 0 (fun _ => true) true Try.f3.params.toList args.toList ds p := hA0
  rw [Try.params3] at hA hval
  obtain ⟨v0, vs0, d0, ds0, p0, q0, hargs, rfl, rfl, h0, r0⟩ := trodAll_cons hA
  obtain ⟨v1, vs1, d1, ds1, p1, q1, rfl, rfl, rfl, h1, r1⟩ := trodAll_cons r0
  obtain ⟨v2, vs2, d2, ds2, p2, q2, rfl, rfl, rfl, h2, r2⟩ := trodAll_cons r1
  obtain ⟨v3, vs3, d3, ds3, p3, q3, rfl, rfl, rfl, h3, r3⟩ := trodAll_cons r2
  obtain ⟨v4, vs4, d4, ds4, p4, q4, rfl, rfl, rfl, h4, r4⟩ := trodAll_cons r3
  obtain ⟨v5, vs5, d5, ds5, p5, q5, rfl, rfl, rfl, h5, r5⟩ := trodAll_cons r4
  obtain ⟨v6, vs6, d6, ds6, p6, q6, rfl, rfl, rfl, h6, r6⟩ := trodAll_cons r5
  obtain ⟨rfl, rfl, rfl⟩ := trodAll_nil r6
  obtain rfl : args = #[v0, v1, v2, v3, v4, v5, v6] := by cases args; simp_all
  obtain ⟨rfl, rfl⟩ := trodVars_none hV
  have k0 := h0
  have lt0 : ∀ x ∈ p0, x.block < W.heap.size := by obtain ⟨m, hm⟩ := k0; exact DataW.trod_lt m _ _ _ hm
  obtain ⟨a0, c0, pl0, rfl, row0, hl0, hm0, z0⟩ := open_plant (hval 0 26 v0 rfl rfl) h0
  have k1 := h1
  have lt1 : ∀ x ∈ p1, x.block < W.heap.size := by obtain ⟨m, hm⟩ := k1; exact DataW.trod_lt m _ _ _ hm
  obtain ⟨a1, len1, cap1, rfl⟩ := okWide_slice Try.underlying27 (hval 1 27 v1 rfl rfl)
  obtain ⟨fuel1, hf1⟩ := h1
  obtain ⟨b1, c1, xs1, e1, hl1, hm1, row1, wf1, z1⟩ := open_typed (n := 4) (fun _ h => Lev_of_leaves h) Try.underlying27 (by kernel_rfl) (by kernel_rfl) (by decide) hf1
  simp [Value.cells] at e1
  obtain ⟨rfl, rfl, rfl⟩ := e1
  have k2 := h2
  have lt2 : ∀ x ∈ p2, x.block < W.heap.size := by obtain ⟨m, hm⟩ := k2; exact DataW.trod_lt m _ _ _ hm
  obtain ⟨a2, rfl, wf2⟩ := open_agg (n := 5) (fun _ h => Sp.of_leaves h) Try.underlying29 (by kernel_rfl) (hval 2 29 v2 rfl rfl) h2
  have k3 := h3
  have lt3 : ∀ x ∈ p3, x.block < W.heap.size := by obtain ⟨m, hm⟩ := k3; exact DataW.trod_lt m _ _ _ hm
  obtain ⟨a3, rfl, wf3⟩ := open_agg (n := 5) (fun _ h => Sp.of_leaves h) Try.underlying29 (by kernel_rfl) (hval 3 29 v3 rfl rfl) h3
  obtain ⟨a4, rfl, rfl, rfl, w4⟩ := open_int Try.underlying5 (hval 4 5 v4 rfl rfl) h4
  obtain ⟨a5, rfl, rfl, rfl, w5⟩ := open_int Try.underlying5 (hval 5 5 v5 rfl rfl) h5
  obtain ⟨a6, rfl, rfl, rfl, w6⟩ := open_int Try.underlying30 (hval 6 30 v6 rfl rfl) h6
  clear hA0 hval0
  refine (law_TopGauged pl0 a0 c0 xs1 a1 cap1 a2.lo a2.hi a3.lo a3.hi a4 a5 a6 W row0 hl0 hm0 z0 row1 hl1 hm1 (wf_u8o w4) (wf_u8o w5) ⟨(wf_u16 w6).1, by have := (wf_u16 w6).2; omega⟩).mono fun e W' ⟨he, bel⟩ => ?_
  subst he
  exact ⟨_, rfl, _, _, _, [], _, [], hW', trodAll_mk1 (shut_bool Try.underlying4 _), (trodAll_cons_mk (Below.trod laidOut (by kernel_rfl) (of_decide_eq_true (by kernel_rfl)) k0 bel lt0) (trodAll_cons_mk (Below.trod laidOut (by kernel_rfl) (of_decide_eq_true (by kernel_rfl)) k1 bel lt1) (trodAll_cons_mk (Below.trod laidOut (by kernel_rfl) (of_decide_eq_true (by kernel_rfl)) k2 bel lt2) (trodAll_cons_mk (Below.trod laidOut (by kernel_rfl) (of_decide_eq_true (by kernel_rfl)) k3 bel lt3) (trodAll_cons_mk (shut_int Try.underlying5 w4) (trodAll_cons_mk (shut_int Try.underlying5 w5) (trodAll_cons_mk (shut_int Try.underlying30 w6) trodAll_mk0))))))), rfl, bel.frame _, fun h => by cases h⟩

theorem joined : joinedFacts Try.prog 3 Try.f3 Rows.topGaugedSpec Rows.topGaugedRow = true := by
  unfold joinedFacts
  rw [mayEnter_is, liftsFinal_is, make_is]
  kernel_rfl
theorem over : Rows.topGaugedRow.holds Try.pinned (OpenSpec.ofChange Rows.topGaugedSpec) :=
  OpenClaim.holds_of_wide 3 Try.f3 rfl rfl rfl rfl rfl rfl rfl ⟨rfl, rfl, rfl, rfl, rfl⟩ rfl rfl rfl rfl rfl (by kernel_rfl) Try.func3 joined
    (of_decide_eq_true (by kernel_rfl)) (by unfold Func.isWrapper; first | (rw [if_pos (by decide +kernel)]; kernel_rfl) | (rw [if_neg (by decide +kernel)]; exact ⟨rfl, rfl⟩))
    (fun os started H enc _ => lifted os started H enc)
end Go.Proofs.Ytnfhcpnpjkefmaa.topGauged

namespace Go.Proofs.Ytnfhcpnpjkefmaa
theorem topGauged_holds : Rows.TopGaugedSaid := topGauged.over
#print axioms topGauged_holds
end Go.Proofs.Ytnfhcpnpjkefmaa

/- testamurlaw23.LeakageMore, region 17: a field and a value more, in whatever order. Written by genreg.py and genty.py. -/
import Derived.Test.YtkgmonplcdnnbaaGreatPmLkRg
namespace Go.Proofs.YtkgmonplcdnnbaaGreat
open Go.RowKit Go.Shelf
set_option maxHeartbeats 16000000 in
set_option maxRecDepth 100000 in
theorem more_reg17 {Q : Exit → Act → World → Prop} {t0 t1 t4 t5 t6 t7 t8 t10 t11 t12 t13 t14 t15 t16 t17 t18 t19 t20 t21 t22 t23 t24 t25 t26 t27 t28 t29 t30 t31 t32 t33 t34 t35 t36 t37 t38 t39 t40 t41 t42 t43 t44 t45 t46 t47 t48 t49 t50 t51 t52 t53 t54 t55 t56 t57 t58 t59 t60 t61 t62 t63 t64 t65 t66 t67 t68 t69 t70 t71 t72 t73 t74 t75 t76 t77 t78 t79 t80 t81 t82 t83 t84 t85 t86 t87 t88 t89 t90 t91 t92 t93 t94 t95 t96 t97 t98 t99 t100 t101 t102 t103 t104 t105 t106 t107 t108 t109 t110 t111 t112 t113 t114 t115 t116 t117 t118 t119 t120 t121 t122 t123 t124 t125 t126 t127 t128 t129 t130 t131 t132 t133 t134 t135 t136 t137 t138 t139 t140 t141 t142 t143 t144 t145 t146 t147 t148 t149 t150 t151 t152 t153 t154 t155 t156 t157 t158 t159 t160 t161 t162 t163 t164 t165 t166 t167 t168 t169 t170 t171 t172 t173 t174 t175 t176 t177 t178 t179 t180 t181 t182 t183 t184 t185 t186 t187 t188 t189 t190 t191 t192 t193 t194 t195 t196 t197 t198 t199 t200 t201 t202 t203 t204 t205 t206 t207 t208 t209 t210 t211 t212 t213 t214 t215 t216 t217 t218 t219 t220 t221 t222 t223 t224 t225 t226 t227 t228 t229 t230 t231 t232 t233 t234 t235 t236 t237 t238 t239 t240 t241 t242 t243 t244 t245 t246 t247 t248 t249 t250 t251 t252 t253 t254 t255 t256 t257 t258 t259 t260 t261 t262 t263 t264 t265 t266 t267 t268 t269 t270 t271 t272 t273 t274 t275 t276 t277 t278 t279 t280 t281 t282 t283 t284 t285 t286 t287 t288 t289 : Value} (w3 wr : World) (sc : Int) (field value : Int) (u v : Value) (M Vs : List Int) (hmq : MoreQ w3.heap.size (w3.heap.size + 1) w3 sc u v u v M Vs wr) (hlm : M.length ≤ 30) (hlv : Vs.length ≤ 30)
 (hQ : ∀ (z105 z106 z107 z108 z109 z110 z111 z112 z113 z114 z115 z116 : Value) (u' v' : Value) (W : World), MoreQ w3.heap.size (w3.heap.size + 1) w3 sc u' v' u' v' (M ++ [field]) (Vs ++ [value]) W → Q .normal { tmps := #[t0, t1, .int .i64 field, .int .i64 value, t4, t5, t6, t7, t8, .pointer (some ⟨w3.heap.size, 0, none⟩), t10, t11, t12, t13, t14, t15, t16, t17, t18, t19, t20, t21, t22, t23, t24, t25, t26, t27, t28, t29, t30, t31, t32, t33, t34, t35, t36, t37, t38, t39, t40, t41, t42, t43, t44, t45, t46, t47, t48, t49, t50, t51, t52, t53, t54, t55, t56, t57, t58, t59, t60, t61, t62, t63, t64, t65, t66, t67, t68, t69, t70, t71, t72, t73, t74, t75, t76, t77, t78, t79, t80, t81, t82, t83, t84, t85, t86, t87, t88, t89, t90, t91, t92, t93, t94, t95, t96, t97, t98, t99, t100, t101, t102, t103, t104, z105, z106, z107, z108, z109, z110, z111, z112, z113, z114, z115, z116, t117, t118, t119, t120, t121, t122, t123, t124, t125, t126, t127, t128, t129, t130, t131, t132, t133, t134, t135, t136, t137, t138, t139, t140, t141, t142, t143, t144, t145, t146, t147, t148, t149, t150, t151, t152, t153, t154, t155, t156, t157, t158, t159, t160, t161, t162, t163, t164, t165, t166, t167, t168, t169, t170, t171, t172, t173, t174, t175, t176, t177, t178, t179, t180, t181, t182, t183, t184, t185, t186, t187, t188, t189, t190, t191, t192, t193, t194, t195, t196, t197, t198, t199, t200, t201, t202, t203, t204, t205, t206, t207, t208, t209, t210, t211, t212, t213, t214, t215, t216, t217, t218, t219, t220, t221, t222, t223, t224, t225, t226, t227, t228, t229, t230, t231, t232, t233, t234, t235, t236, t237, t238, t239, t240, t241, t242, t243, t244, t245, t246, t247, t248, t249, t250, t251, t252, t253, t254, t255, t256, t257, t258, t259, t260, t261, t262, t263, t264, t265, t266, t267, t268, t269, t270, t271, t272, t273, t274, t275, t276, t277, t278, t279, t280, t281, t282, t283, t284, t285, t286, t287, t288, t289], defers := [] } W) :
 ∀ ops, opsOf (Tryz.f5.body.getD .skip) 17 = some ops → (Code.region 17 ops true).wp Tryz.prog Q { tmps := #[t0, t1, .int .i64 field, .int .i64 value, t4, t5, t6, t7, t8, .pointer (some ⟨w3.heap.size, 0, none⟩), t10, t11, t12, t13, t14, t15, t16, t17, t18, t19, t20, t21, t22, t23, t24, t25, t26, t27, t28, t29, t30, t31, t32, t33, t34, t35, t36, t37, t38, t39, t40, t41, t42, t43, t44, t45, t46, t47, t48, t49, t50, t51, t52, t53, t54, t55, t56, t57, t58, t59, t60, t61, t62, t63, t64, t65, t66, t67, t68, t69, t70, t71, t72, t73, t74, t75, t76, t77, t78, t79, t80, t81, t82, t83, t84, t85, t86, t87, t88, t89, t90, t91, t92, t93, t94, t95, t96, t97, t98, t99, t100, t101, t102, t103, t104, t105, t106, t107, t108, t109, t110, t111, t112, t113, t114, t115, t116, t117, t118, t119, t120, t121, t122, t123, t124, t125, t126, t127, t128, t129, t130, t131, t132, t133, t134, t135, t136, t137, t138, t139, t140, t141, t142, t143, t144, t145, t146, t147, t148, t149, t150, t151, t152, t153, t154, t155, t156, t157, t158, t159, t160, t161, t162, t163, t164, t165, t166, t167, t168, t169, t170, t171, t172, t173, t174, t175, t176, t177, t178, t179, t180, t181, t182, t183, t184, t185, t186, t187, t188, t189, t190, t191, t192, t193, t194, t195, t196, t197, t198, t199, t200, t201, t202, t203, t204, t205, t206, t207, t208, t209, t210, t211, t212, t213, t214, t215, t216, t217, t218, t219, t220, t221, t222, t223, t224, t225, t226, t227, t228, t229, t230, t231, t232, t233, t234, t235, t236, t237, t238, t239, t240, t241, t242, t243, t244, t245, t246, t247, t248, t249, t250, t251, t252, t253, t254, t255, t256, t257, t258, t259, t260, t261, t262, t263, t264, t265, t266, t267, t268, t269, t270, t271, t272, t273, t274, t275, t276, t277, t278, t279, t280, t281, t282, t283, t284, t285, t286, t287, t288, t289], defers := [] } wr := by
 intro ops hops
 have hlit : opsOf (Tryz.f5.body.getD .skip) 17 = some _ := rfl
 rw [hlit] at hops
 obtain rfl := Option.some.inj hops
 clear hlit hops
 have HMQ := Lib.hid hmq
 have HLM := Lib.hid hlm
 have HLV := Lib.hid hlv
 have HQF := Lib.hid hQ
 obtain ⟨lm, m1, m2, f1, f2⟩ := hmq.at_
 clear hmq hlm hlv hQ
 refine wp_region_noPanic ?_
 have HS : Hid (∀ (u1 v1 : Value) (M1 V1 : List Int) (W : World), MoreQ w3.heap.size (w3.heap.size + 1) w3 sc u v u1 v1 M1 V1 W → W.cell? ⟨w3.heap.size, 1, none⟩ = some u ∧ W.cell? ⟨w3.heap.size, 2, none⟩ = some v) := Lib.hid (fun u1 v1 M1 V1 W h => ⟨h.at_.2.1, h.at_.2.2.1⟩)
 refine wp_region_till (fun W => W.cell? ⟨w3.heap.size, 1, none⟩ = some u ∧ W.cell? ⟨w3.heap.size, 2, none⟩ = some v) 11 14 #[false, false, false, false, false, false, false, false, false, false, false, false, false, false] (by kernel_rfl) (by rfl) (by rfl) ?_
 refine needPure 0 (by kernel_rfl) (Till.of (HS.out _ _ _ _ _ HMQ.out.drew)) (fun oi hoi => ?_)
 simp only [List.getElem?_toArray, List.getElem?_cons_zero, Option.some.injEq] at hoi
 subst hoi
 refine Exists.intro ?_ ⟨fun _ _ _ h => h, Or.inl ⟨by rfl, ?_⟩, ?_⟩
 rotate_left
 ·
  intro W _
  go_simp
  try with_reducible rfl
 try simp only [Act.put, List.setIfInBounds_toArray, List.set_cons_zero, List.set_cons_succ]
 refine needLoad 1 [1] (by kernel_rfl) (HS.out _ _ _ _ _ HMQ.out.drew) (fun oi hoi => ?_)
 simp only [List.getElem?_toArray, List.getElem?_cons_succ, List.getElem?_cons_zero, Option.some.injEq] at hoi
 subst hoi
 refine Exists.intro ?_ ⟨fun _ _ _ h => h, Or.inl ⟨by rfl, ?_⟩, ?_⟩
 rotate_left
 ·
  intro W hW
  obtain ⟨z0, z1⟩ := hW
  go_simp
  try with_reducible rfl
 try simp only [Act.put, List.setIfInBounds_toArray, List.set_cons_zero, List.set_cons_succ]
 refine needPure 2 (by kernel_rfl) (Till.of (HS.out _ _ _ _ _ HMQ.out.drew)) (fun oi hoi => ?_)
 simp only [List.getElem?_toArray, List.getElem?_cons_succ, List.getElem?_cons_zero, Option.some.injEq] at hoi
 subst hoi
 refine Exists.intro ?_ ⟨fun _ _ _ h => h, Or.inl ⟨by rfl, ?_⟩, ?_⟩
 rotate_left
 ·
  intro W _
  go_simp
  try with_reducible rfl
 try simp only [Act.put, List.setIfInBounds_toArray, List.set_cons_zero, List.set_cons_succ]
 refine needPure 5 (by kernel_rfl) (Till.of (HS.out _ _ _ _ _ HMQ.out.drew)) (fun oi hoi => ?_)
 simp only [List.getElem?_toArray, List.getElem?_cons_succ, List.getElem?_cons_zero, Option.some.injEq] at hoi
 subst hoi
 refine Exists.intro ?_ ⟨fun _ _ _ h => h, Or.inl ⟨by rfl, ?_⟩, ?_⟩
 rotate_left
 ·
  intro W _
  go_simp
  try with_reducible rfl
 try simp only [Act.put, List.setIfInBounds_toArray, List.set_cons_zero, List.set_cons_succ]
 refine needLoad 6 [6] (by kernel_rfl) (HS.out _ _ _ _ _ HMQ.out.drew) (fun oi hoi => ?_)
 simp only [List.getElem?_toArray, List.getElem?_cons_succ, List.getElem?_cons_zero, Option.some.injEq] at hoi
 subst hoi
 refine Exists.intro ?_ ⟨fun _ _ _ h => h, Or.inl ⟨by rfl, ?_⟩, ?_⟩
 rotate_left
 ·
  intro W hW
  obtain ⟨z0, z1⟩ := hW
  go_simp
  try with_reducible rfl
 try simp only [Act.put, List.setIfInBounds_toArray, List.set_cons_zero, List.set_cons_succ]
 refine needPure 7 (by kernel_rfl) (Till.of (HS.out _ _ _ _ _ HMQ.out.drew)) (fun oi hoi => ?_)
 simp only [List.getElem?_toArray, List.getElem?_cons_succ, List.getElem?_cons_zero, Option.some.injEq] at hoi
 subst hoi
 refine Exists.intro ?_ ⟨fun _ _ _ h => h, Or.inl ⟨by rfl, ?_⟩, ?_⟩
 rotate_left
 ·
  intro W _
  go_simp
  try with_reducible rfl
 try simp only [Act.put, List.setIfInBounds_toArray, List.set_cons_zero, List.set_cons_succ]
 refine wpAnyN_ready (rs := [3, 8]) (by kernel_rfl) (by simp) (AllReadyN.cons (by rfl) (fun oi hoi K hK => ?_) (AllReadyN.cons (by rfl) (fun oi hoi K hK => ?_) AllReadyN.nil))
 ·
  simp only [List.getElem?_toArray, List.getElem?_cons_succ, List.getElem?_cons_zero, Option.some.injEq] at hoi
  subst hoi
  go_simp
  refine hK.out _ _ (Till.of (HS.out _ _ _ _ _ (HMQ.out.alloc (.cells #[.int .i64 field] 3)).drew)) ?_
  clear hK K
  try simp only [List.setIfInBounds_toArray, List.set_cons_zero, List.set_cons_succ]
  refine wpAnyN_ready (rs := [4, 8]) (by kernel_rfl) (by simp) (AllReadyN.cons (by rfl) (fun oi hoi K hK => ?_) (AllReadyN.cons (by rfl) (fun oi hoi K hK => ?_) AllReadyN.nil))
  ·
   simp only [List.getElem?_toArray, List.getElem?_cons_succ, List.getElem?_cons_zero, Option.some.injEq] at hoi
   subst hoi
   refine MoreQ.stepU (HMQ.out.alloc (.cells #[.int .i64 field] 3)).drew HLM.out (by rfl) (.tmp 106) (.tmp 108) (by rfl) (by rfl) (wr.heap.size) field (by rfl) (Blk.new wr 3 #[.int .i64 field]).drew ?_
   intro UA7 uc7 w7 hq7 hgrow7
   obtain ⟨lm7, c71, c72, f71, f72⟩ := hq7.at_
   have HQ7a := Lib.hid hq7
   refine hK.out _ _ (Till.of (HS.out _ _ _ _ _ HQ7a.out)) ?_
   clear hK K
   clear hgrow7 hq7
   try simp only [Act.put, List.setIfInBounds_toArray, List.set_cons_zero, List.set_cons_succ]
   refine needPure 10 (by kernel_rfl) (Till.of (HS.out _ _ _ _ _ HQ7a.out)) (fun oi hoi => ?_)
   simp only [List.getElem?_toArray, List.getElem?_cons_succ, List.getElem?_cons_zero, Option.some.injEq] at hoi
   subst hoi
   refine Exists.intro ?_ ⟨fun _ _ _ h => h, Or.inl ⟨by rfl, ?_⟩, ?_⟩
   rotate_left
   ·
    intro W _
    go_simp
    try with_reducible rfl
   try simp only [Act.put, List.setIfInBounds_toArray, List.set_cons_zero, List.set_cons_succ]
   refine wpAnyN_ready (rs := [8]) (by kernel_rfl) (by simp) (AllReadyN.cons (by rfl) (fun oi hoi K hK => ?_) AllReadyN.nil)
   simp only [List.getElem?_toArray, List.getElem?_cons_succ, List.getElem?_cons_zero, Option.some.injEq] at hoi
   subst hoi
   go_simp
   refine hK.out _ _ (Till.of (HS.out _ _ _ _ _ (HQ7a.out.alloc (.cells #[.int .i64 value] 3)))) ?_
   clear hK K
   try simp only [List.setIfInBounds_toArray, List.set_cons_zero, List.set_cons_succ]
   refine wpAnyN_ready (rs := [9]) (by kernel_rfl) (by simp) (AllReadyN.cons (by rfl) (fun oi hoi K hK => ?_) AllReadyN.nil)
   simp only [List.getElem?_toArray, List.getElem?_cons_succ, List.getElem?_cons_zero, Option.some.injEq] at hoi
   subst hoi
   refine MoreQ.stepV (HQ7a.out.alloc (.cells #[.int .i64 value] 3)) HLV.out (by rfl) (.tmp 111) (.tmp 113) (by rfl) (by rfl) (w7.heap.size) value (by rfl) (Blk.new w7 3 #[.int .i64 value]) ?_
   intro UA8 uc8 w8 hq8 _
   obtain ⟨lm8, c81, c82, f81, f82⟩ := hq8.at_
   have HQ8 := Lib.hid hq8
   refine hK.out _ _ (Till.of (HS.out _ _ _ _ _ HQ8.out)) ?_
   clear hK K
   clear hq8
   try simp only [Act.put, List.setIfInBounds_toArray, List.set_cons_zero, List.set_cons_succ]
   refine wpAnyN_ready (rs := [11]) (by kernel_rfl) (by simp) (AllReadyN.cons (by rfl) (fun oi hoi K hK => ?_) AllReadyN.nil)
   simp only [List.getElem?_toArray, List.getElem?_cons_succ, List.getElem?_cons_zero, Option.some.injEq] at hoi
   subst hoi
   go_simp
   refine hK.out _ _ (Till.past (by rfl)) ?_
   clear hK K
   try simp only [List.setIfInBounds_toArray, List.set_cons_zero, List.set_cons_succ]
   refine needPure 12 (by kernel_rfl) (Till.past (by rfl)) (fun oi hoi => ?_)
   simp only [List.getElem?_toArray, List.getElem?_cons_succ, List.getElem?_cons_zero, Option.some.injEq] at hoi
   subst hoi
   refine Exists.intro ?_ ⟨fun _ _ _ h => h, Or.inl ⟨by rfl, ?_⟩, ?_⟩
   rotate_left
   ·
    intro W _
    go_simp
    try with_reducible rfl
   try simp only [Act.put, List.setIfInBounds_toArray, List.set_cons_zero, List.set_cons_succ]
   refine wpAnyN_ready (rs := [13]) (by kernel_rfl) (by simp) (AllReadyN.cons (by rfl) (fun oi hoi K hK => ?_) AllReadyN.nil)
   simp only [List.getElem?_toArray, List.getElem?_cons_succ, List.getElem?_cons_zero, Option.some.injEq] at hoi
   subst hoi
   go_simp
   refine hK.out _ _ (Till.past (by rfl)) ?_
   clear hK K
   try simp only [List.setIfInBounds_toArray, List.set_cons_zero, List.set_cons_succ]
   refine wpAnyN_done (by kernel_rfl) ?_ _
   exact NoPanic.normal (HQF.out _ _ _ _ _ _ _ _ _ _ _ _ _ _ _ HQ8.out.put)
  ·
   simp only [List.getElem?_toArray, List.getElem?_cons_succ, List.getElem?_cons_zero, Option.some.injEq] at hoi
   subst hoi
   go_simp
   refine hK.out _ _ (Till.of (HS.out _ _ _ _ _ ((HMQ.out.alloc (.cells #[.int .i64 field] 3)).alloc (.cells #[.int .i64 value] 3)).drew)) ?_
   clear hK K
   try simp only [List.setIfInBounds_toArray, List.set_cons_zero, List.set_cons_succ]
   refine wpAnyN_ready (rs := [4]) (by kernel_rfl) (by simp) (AllReadyN.cons (by rfl) (fun oi hoi K hK => ?_) AllReadyN.nil)
   simp only [List.getElem?_toArray, List.getElem?_cons_succ, List.getElem?_cons_zero, Option.some.injEq] at hoi
   subst hoi
   refine MoreQ.stepU ((HMQ.out.alloc (.cells #[.int .i64 field] 3)).alloc (.cells #[.int .i64 value] 3)).drew HLM.out (by rfl) (.tmp 106) (.tmp 108) (by rfl) (by rfl) (wr.heap.size) field (by rfl) ((Blk.new wr 3 #[.int .i64 field]).alloc _).drew ?_
   intro UA7 uc7 w7 hq7 hgrow7
   have HY7b : Hid (Blk w7 (wr.heap.size + 1) 3 #[.int .i64 value]) := Lib.hid ((blk_new2 wr (.cells #[.int .i64 field] 3) 3 #[.int .i64 value]).drew.grown hgrow7 (fun e => by have := (HMQ.out.ru.lt _ e.symm).2; omega))
   obtain ⟨lm7, c71, c72, f71, f72⟩ := hq7.at_
   have HQ7b := Lib.hid hq7
   refine hK.out _ _ (Till.of (HS.out _ _ _ _ _ HQ7b.out)) ?_
   clear hK K
   clear hgrow7 hq7
   try simp only [Act.put, List.setIfInBounds_toArray, List.set_cons_zero, List.set_cons_succ]
   refine needPure 10 (by kernel_rfl) (Till.of (HS.out _ _ _ _ _ HQ7b.out)) (fun oi hoi => ?_)
   simp only [List.getElem?_toArray, List.getElem?_cons_succ, List.getElem?_cons_zero, Option.some.injEq] at hoi
   subst hoi
   refine Exists.intro ?_ ⟨fun _ _ _ h => h, Or.inl ⟨by rfl, ?_⟩, ?_⟩
   rotate_left
   ·
    intro W _
    go_simp
    try with_reducible rfl
   try simp only [Act.put, List.setIfInBounds_toArray, List.set_cons_zero, List.set_cons_succ]
   refine wpAnyN_ready (rs := [9]) (by kernel_rfl) (by simp) (AllReadyN.cons (by rfl) (fun oi hoi K hK => ?_) AllReadyN.nil)
   simp only [List.getElem?_toArray, List.getElem?_cons_succ, List.getElem?_cons_zero, Option.some.injEq] at hoi
   subst hoi
   refine MoreQ.stepV HQ7b.out HLV.out (by rfl) (.tmp 111) (.tmp 113) (by rfl) (by rfl) (wr.heap.size + 1) value (by rfl) HY7b.out ?_
   intro UA8 uc8 w8 hq8 _
   obtain ⟨lm8, c81, c82, f81, f82⟩ := hq8.at_
   have HQ8 := Lib.hid hq8
   refine hK.out _ _ (Till.of (HS.out _ _ _ _ _ HQ8.out)) ?_
   clear hK K
   clear hq8
   try simp only [Act.put, List.setIfInBounds_toArray, List.set_cons_zero, List.set_cons_succ]
   refine wpAnyN_ready (rs := [11]) (by kernel_rfl) (by simp) (AllReadyN.cons (by rfl) (fun oi hoi K hK => ?_) AllReadyN.nil)
   simp only [List.getElem?_toArray, List.getElem?_cons_succ, List.getElem?_cons_zero, Option.some.injEq] at hoi
   subst hoi
   go_simp
   refine hK.out _ _ (Till.past (by rfl)) ?_
   clear hK K
   try simp only [List.setIfInBounds_toArray, List.set_cons_zero, List.set_cons_succ]
   refine needPure 12 (by kernel_rfl) (Till.past (by rfl)) (fun oi hoi => ?_)
   simp only [List.getElem?_toArray, List.getElem?_cons_succ, List.getElem?_cons_zero, Option.some.injEq] at hoi
   subst hoi
   refine Exists.intro ?_ ⟨fun _ _ _ h => h, Or.inl ⟨by rfl, ?_⟩, ?_⟩
   rotate_left
   ·
    intro W _
    go_simp
    try with_reducible rfl
   try simp only [Act.put, List.setIfInBounds_toArray, List.set_cons_zero, List.set_cons_succ]
   refine wpAnyN_ready (rs := [13]) (by kernel_rfl) (by simp) (AllReadyN.cons (by rfl) (fun oi hoi K hK => ?_) AllReadyN.nil)
   simp only [List.getElem?_toArray, List.getElem?_cons_succ, List.getElem?_cons_zero, Option.some.injEq] at hoi
   subst hoi
   go_simp
   refine hK.out _ _ (Till.past (by rfl)) ?_
   clear hK K
   try simp only [List.setIfInBounds_toArray, List.set_cons_zero, List.set_cons_succ]
   refine wpAnyN_done (by kernel_rfl) ?_ _
   exact NoPanic.normal (HQF.out _ _ _ _ _ _ _ _ _ _ _ _ _ _ _ HQ8.out.put)
 ·
  simp only [List.getElem?_toArray, List.getElem?_cons_succ, List.getElem?_cons_zero, Option.some.injEq] at hoi
  subst hoi
  go_simp
  refine hK.out _ _ (Till.of (HS.out _ _ _ _ _ (HMQ.out.alloc (.cells #[.int .i64 value] 3)).drew)) ?_
  clear hK K
  try simp only [List.setIfInBounds_toArray, List.set_cons_zero, List.set_cons_succ]
  refine wpAnyN_ready (rs := [3]) (by kernel_rfl) (by simp) (AllReadyN.cons (by rfl) (fun oi hoi K hK => ?_) AllReadyN.nil)
  simp only [List.getElem?_toArray, List.getElem?_cons_succ, List.getElem?_cons_zero, Option.some.injEq] at hoi
  subst hoi
  go_simp
  refine hK.out _ _ (Till.of (HS.out _ _ _ _ _ ((HMQ.out.alloc (.cells #[.int .i64 value] 3)).alloc (.cells #[.int .i64 field] 3)).drew)) ?_
  clear hK K
  try simp only [List.setIfInBounds_toArray, List.set_cons_zero, List.set_cons_succ]
  refine wpAnyN_ready (rs := [4]) (by kernel_rfl) (by simp) (AllReadyN.cons (by rfl) (fun oi hoi K hK => ?_) AllReadyN.nil)
  simp only [List.getElem?_toArray, List.getElem?_cons_succ, List.getElem?_cons_zero, Option.some.injEq] at hoi
  subst hoi
  refine MoreQ.stepU ((HMQ.out.alloc (.cells #[.int .i64 value] 3)).alloc (.cells #[.int .i64 field] 3)).drew HLM.out (by rfl) (.tmp 106) (.tmp 108) (by rfl) (by rfl) (wr.heap.size + 1) field (by rfl) (blk_new2 wr (.cells #[.int .i64 value] 3) 3 #[.int .i64 field]).drew ?_
  intro UA7 uc7 w7 hq7 hgrow7
  have HY7c : Hid (Blk w7 (wr.heap.size) 3 #[.int .i64 value]) := Lib.hid (((Blk.new wr 3 #[.int .i64 value]).alloc _).drew.grown hgrow7 (fun e => by have := (HMQ.out.ru.lt _ e.symm).2; omega))
  obtain ⟨lm7, c71, c72, f71, f72⟩ := hq7.at_
  have HQ7c := Lib.hid hq7
  refine hK.out _ _ (Till.of (HS.out _ _ _ _ _ HQ7c.out)) ?_
  clear hK K
  clear hgrow7 hq7
  try simp only [Act.put, List.setIfInBounds_toArray, List.set_cons_zero, List.set_cons_succ]
  refine needPure 10 (by kernel_rfl) (Till.of (HS.out _ _ _ _ _ HQ7c.out)) (fun oi hoi => ?_)
  simp only [List.getElem?_toArray, List.getElem?_cons_succ, List.getElem?_cons_zero, Option.some.injEq] at hoi
  subst hoi
  refine Exists.intro ?_ ⟨fun _ _ _ h => h, Or.inl ⟨by rfl, ?_⟩, ?_⟩
  rotate_left
  ·
   intro W _
   go_simp
   try with_reducible rfl
  try simp only [Act.put, List.setIfInBounds_toArray, List.set_cons_zero, List.set_cons_succ]
  refine wpAnyN_ready (rs := [9]) (by kernel_rfl) (by simp) (AllReadyN.cons (by rfl) (fun oi hoi K hK => ?_) AllReadyN.nil)
  simp only [List.getElem?_toArray, List.getElem?_cons_succ, List.getElem?_cons_zero, Option.some.injEq] at hoi
  subst hoi
  refine MoreQ.stepV HQ7c.out HLV.out (by rfl) (.tmp 111) (.tmp 113) (by rfl) (by rfl) (wr.heap.size) value (by rfl) HY7c.out ?_
  intro UA8 uc8 w8 hq8 _
  obtain ⟨lm8, c81, c82, f81, f82⟩ := hq8.at_
  have HQ8 := Lib.hid hq8
  refine hK.out _ _ (Till.of (HS.out _ _ _ _ _ HQ8.out)) ?_
  clear hK K
  clear hq8
  try simp only [Act.put, List.setIfInBounds_toArray, List.set_cons_zero, List.set_cons_succ]
  refine wpAnyN_ready (rs := [11]) (by kernel_rfl) (by simp) (AllReadyN.cons (by rfl) (fun oi hoi K hK => ?_) AllReadyN.nil)
  simp only [List.getElem?_toArray, List.getElem?_cons_succ, List.getElem?_cons_zero, Option.some.injEq] at hoi
  subst hoi
  go_simp
  refine hK.out _ _ (Till.past (by rfl)) ?_
  clear hK K
  try simp only [List.setIfInBounds_toArray, List.set_cons_zero, List.set_cons_succ]
  refine needPure 12 (by kernel_rfl) (Till.past (by rfl)) (fun oi hoi => ?_)
  simp only [List.getElem?_toArray, List.getElem?_cons_succ, List.getElem?_cons_zero, Option.some.injEq] at hoi
  subst hoi
  refine Exists.intro ?_ ⟨fun _ _ _ h => h, Or.inl ⟨by rfl, ?_⟩, ?_⟩
  rotate_left
  ·
   intro W _
   go_simp
   try with_reducible rfl
  try simp only [Act.put, List.setIfInBounds_toArray, List.set_cons_zero, List.set_cons_succ]
  refine wpAnyN_ready (rs := [13]) (by kernel_rfl) (by simp) (AllReadyN.cons (by rfl) (fun oi hoi K hK => ?_) AllReadyN.nil)
  simp only [List.getElem?_toArray, List.getElem?_cons_succ, List.getElem?_cons_zero, Option.some.injEq] at hoi
  subst hoi
  go_simp
  refine hK.out _ _ (Till.past (by rfl)) ?_
  clear hK K
  try simp only [List.setIfInBounds_toArray, List.set_cons_zero, List.set_cons_succ]
  refine wpAnyN_done (by kernel_rfl) ?_ _
  exact NoPanic.normal (HQF.out _ _ _ _ _ _ _ _ _ _ _ _ _ _ _ HQ8.out.put)
end Go.Proofs.YtkgmonplcdnnbaaGreat

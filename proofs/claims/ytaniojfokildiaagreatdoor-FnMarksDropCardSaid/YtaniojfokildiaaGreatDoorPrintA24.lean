-- written by this session's own driver (wip/gen.py) with the kit's print and contracts of our own
import Derived.Test.YtaniojfokildiaaGreatDoorPrintA0
import Derived.Test.YtaniojfokildiaaGreatDoorPrintA2
import Derived.Test.YtaniojfokildiaaGreatDoorPrintA17
import Derived.Test.YtaniojfokildiaaGreatDoorPrintA23
import Derived.Deep.Cut
namespace Go.Proofs.YtaniojfokildiaaGreatDoor.PrintA
open Go.RowKit Go.Proofs.YtaniojfokildiaaGreatDoorLib Go.Proofs.YtaniojfokildiaaGreatDoorW.PrintWords Go.Proofs.YtaniojfokildiaaGreatDoorW.PrintLast Go.Proofs.YtaniojfokildiaaGreatDoorW.PrintMore
attribute [local go_sem] max2_int min2_int max_two min_two max_three min_three max_four min_four   -- for this text's walks alone
set_option linter.unusedVariables false
set_option linter.unusedSimpArgs false

/-! ### laws_FnMarksDrop: function 3, a law -/
-- IMPORT Derived.Deep.Cut
/-- The law's body behind its first n statements. -/
def mkDrop_ : Nat → Code → Code
  | 0, c => c
  | n + 1, .seq _ b => mkDrop_ n b
  | _ + 1, c => c
noncomputable def mkBody : Code := Tryz.f3.body.getD .skip
set_option maxHeartbeats 60000000 in
set_option maxRecDepth 100000 in
theorem mk_585 {s6 : ByteArray} {m6 : List Int} {n6 c75 : Nat} {A75 : Option Addr} {ok6 : Bool} {v0 v1 v2 v3 v4 v5 v6 v7 v8 v9 v10 v11 v12 v13 v14 v15 v16 v17 v18 v19 v20 v21 v22 v23 v24 v25 v26 v27 v28 v29 v30 v31 v32 v33 v34 v35 v36 v37 v38 v39 v40 v41 v42 v43 v44 v45 v46 v47 v48 v49 v50 v51 v52 v53 v54 v55 v56 v57 v58 v59 v60 v61 v62 v63 v64 v65 v66 v67 v68 v69 v70 v71 v72 v73 v77 v78 v79 v80 v81 v82 v83 v84 v85 v86 v87 v88 v89 v90 v91 v92 v93 v94 v95 v96 v97 v98 v99 v100 v101 v102 v103 v104 v105 v106 v107 v108 v109 v110 v111 v112 v113 v114 v115 v116 v117 v118 v119 v120 v121 v122 v123 v124 v125 v126 v127 v128 v129 v130 v131 v132 v133 v134 v135 v136 v137 v138 v139 v140 v141 v142 v143 v144 v145 v146 v147 v148 v149 v150 v151 v152 v153 v154 v155 v156 v157 v158 v159 v160 v161 v162 v163 v164 v165 v166 v167 v168 v169 v170 v171 v172 v173 v174 v175 v176 v177 v178 v179 v180 v181 v182 v183 v184 v185 v186 v187 v188 v189 v190 v191 v192 v193 v194 v195 v196 v197 v198 v199 v200 v201 v202 v203 v204 v205 v206 v207 v208 v209 v210 v211 v212 v213 v214 v215 v216 v217 v218 v219 v220 v221 v222 v223 v224 v225 v226 v227 v228 v229 v230 v231 v232 v233 v234 v235 v236 v237 v238 v239 v240 v241 v242 v243 v244 v245 v246 v247 v248 v249 v250 v251 v252 v253 v254 v255 v256 v257 v258 v259 v260 v261 v262 v263 v264 v265 v266 v267 v268 v269 v270 v271 v272 v273 v274 v275 v276 v277 v278 v279 v280 v281 v282 v283 v284 v285 v286 v287 v288 v289 v290 v291 v292 v293 v294 v295 v296 v297 v298 v299 v300 v301 v302 v303 v304 v305 v306 v307 v308 v309 v310 v311 v312 v313 v314 v315 v316 v317 v318 v319 v320 v321 v322 v323 v324 v325 v326 v327 v328 v329 v330 v331 v332 v333 v334 v335 v336 v337 v338 v339 v340 v341 v342 v343 v344 v345 v346 v347 v348 v349 v350 v351 v352 v353 v354 v355 v356 v357 v358 v359 v360 v361 v362 v363 v364 v365 v366 v367 v368 v369 v370 v371 v372 v373 v374 v375 v376 v377 v378 v379 v380 v381 v382 v383 v384 v385 v386 v387 v388 v389 v390 v391 v392 v393 v394 v395 v396 v397 v398 v399 v400 v401 v402 v403 v404 v405 v406 v407 v408 v409 v410 v411 v412 v413 v414 v415 v416 v417 v418 v419 v420 v421 v422 v423 v424 v425 v426 v427 v428 v429 v430 v431 v432 v433 v434 v435 v436 v437 v438 v439 v440 v441 v442 v443 v444 v445 v446 v447 v448 v449 v450 v451 v452 v453 v454 v455 v456 v457 v458 v459 v460 v461 v462 v463 v464 v465 v466 v467 v468 v469 v470 v471 v472 v473 v474 v475 v476 v477 v478 v479 v480 v481 v482 v483 v484 v485 v486 v487 v488 v489 v490 v491 v492 v493 v494 v495 v496 v497 v498 v499 v500 v501 v502 v503 v504 v505 v506 v507 v508 v509 v510 v511 v512 v513 v514 v515 v516 v517 v518 v519 v520 v521 v522 v523 v524 v525 v526 v527 v528 v529 v530 v531 v532 v533 v534 v535 v536 v537 v538 v539 v540 v541 v542 v543 v544 v545 v546 v547 v548 v549 v550 v551 v552 v553 v554 v555 v556 v557 v558 v559 v560 v561 v562 v563 v564 v565 v566 v567 v568 v569 v570 v571 v572 v573 v574 v575 v576 v577 v578 v579 v580 v581 v582 v583 v584 v585 v586 v587 v588 v589 v590 v591 v592 v593 v594 v595 v596 : Value} {Q : Exit → Act → World → Prop} {w0 w : World} (hq : ∀ (tm : Array Value) w', tm.getD 4 undef = .bool true → Below w0.heap.size w0 w' → Q .ret ⟨tm, []⟩ w') (hB : Below w0.heap.size w0 w) (HT : Aside0 (TabsE w)) (HM6 : Aside0 (ok6 = true → MT1 35 m6 n6 s6 true)) (KRe : n6 ≤ c75) (KR : Aside0 (Kd.C (Kd.int .i64) w A75 n6 m6)) :
    Code.wp Tryz.prog (mkDrop_ 33 mkBody) Q ⟨List.toArray (v0 :: v1 :: v2 :: v3 :: v4 :: v5 :: v6 :: v7 :: v8 :: v9 :: v10 :: v11 :: v12 :: v13 :: v14 :: v15 :: v16 :: v17 :: v18 :: v19 :: v20 :: v21 :: v22 :: v23 :: v24 :: v25 :: v26 :: v27 :: v28 :: v29 :: v30 :: v31 :: v32 :: v33 :: v34 :: v35 :: v36 :: v37 :: v38 :: v39 :: v40 :: v41 :: v42 :: v43 :: v44 :: v45 :: v46 :: v47 :: v48 :: v49 :: v50 :: v51 :: v52 :: v53 :: v54 :: v55 :: v56 :: v57 :: v58 :: v59 :: v60 :: v61 :: v62 :: v63 :: v64 :: v65 :: v66 :: v67 :: v68 :: v69 :: v70 :: v71 :: v72 :: v73 :: .string s6 :: .slice A75 n6 c75 :: .bool ok6 :: v77 :: v78 :: v79 :: v80 :: v81 :: v82 :: v83 :: v84 :: v85 :: v86 :: v87 :: v88 :: v89 :: v90 :: v91 :: v92 :: v93 :: v94 :: v95 :: v96 :: v97 :: v98 :: v99 :: v100 :: v101 :: v102 :: v103 :: v104 :: v105 :: v106 :: v107 :: v108 :: v109 :: v110 :: v111 :: v112 :: v113 :: v114 :: v115 :: v116 :: v117 :: v118 :: v119 :: v120 :: v121 :: v122 :: v123 :: v124 :: v125 :: v126 :: v127 :: v128 :: v129 :: v130 :: v131 :: v132 :: v133 :: v134 :: v135 :: v136 :: v137 :: v138 :: v139 :: v140 :: v141 :: v142 :: v143 :: v144 :: v145 :: v146 :: v147 :: v148 :: v149 :: v150 :: v151 :: v152 :: v153 :: v154 :: v155 :: v156 :: v157 :: v158 :: v159 :: v160 :: v161 :: v162 :: v163 :: v164 :: v165 :: v166 :: v167 :: v168 :: v169 :: v170 :: v171 :: v172 :: v173 :: v174 :: v175 :: v176 :: v177 :: v178 :: v179 :: v180 :: v181 :: v182 :: v183 :: v184 :: v185 :: v186 :: v187 :: v188 :: v189 :: v190 :: v191 :: v192 :: v193 :: v194 :: v195 :: v196 :: v197 :: v198 :: v199 :: v200 :: v201 :: v202 :: v203 :: v204 :: v205 :: v206 :: v207 :: v208 :: v209 :: v210 :: v211 :: v212 :: v213 :: v214 :: v215 :: v216 :: v217 :: v218 :: v219 :: v220 :: v221 :: v222 :: v223 :: v224 :: v225 :: v226 :: v227 :: v228 :: v229 :: v230 :: v231 :: v232 :: v233 :: v234 :: v235 :: v236 :: v237 :: v238 :: v239 :: v240 :: v241 :: v242 :: v243 :: v244 :: v245 :: v246 :: v247 :: v248 :: v249 :: v250 :: v251 :: v252 :: v253 :: v254 :: v255 :: v256 :: v257 :: v258 :: v259 :: v260 :: v261 :: v262 :: v263 :: v264 :: v265 :: v266 :: v267 :: v268 :: v269 :: v270 :: v271 :: v272 :: v273 :: v274 :: v275 :: v276 :: v277 :: v278 :: v279 :: v280 :: v281 :: v282 :: v283 :: v284 :: v285 :: v286 :: v287 :: v288 :: v289 :: v290 :: v291 :: v292 :: v293 :: v294 :: v295 :: v296 :: v297 :: v298 :: v299 :: v300 :: v301 :: v302 :: v303 :: v304 :: v305 :: v306 :: v307 :: v308 :: v309 :: v310 :: v311 :: v312 :: v313 :: v314 :: v315 :: v316 :: v317 :: v318 :: v319 :: v320 :: v321 :: v322 :: v323 :: v324 :: v325 :: v326 :: v327 :: v328 :: v329 :: v330 :: v331 :: v332 :: v333 :: v334 :: v335 :: v336 :: v337 :: v338 :: v339 :: v340 :: v341 :: v342 :: v343 :: v344 :: v345 :: v346 :: v347 :: v348 :: v349 :: v350 :: v351 :: v352 :: v353 :: v354 :: v355 :: v356 :: v357 :: v358 :: v359 :: v360 :: v361 :: v362 :: v363 :: v364 :: v365 :: v366 :: v367 :: v368 :: v369 :: v370 :: v371 :: v372 :: v373 :: v374 :: v375 :: v376 :: v377 :: v378 :: v379 :: v380 :: v381 :: v382 :: v383 :: v384 :: v385 :: v386 :: v387 :: v388 :: v389 :: v390 :: v391 :: v392 :: v393 :: v394 :: v395 :: v396 :: v397 :: v398 :: v399 :: v400 :: v401 :: v402 :: v403 :: v404 :: v405 :: v406 :: v407 :: v408 :: v409 :: v410 :: v411 :: v412 :: v413 :: v414 :: v415 :: v416 :: v417 :: v418 :: v419 :: v420 :: v421 :: v422 :: v423 :: v424 :: v425 :: v426 :: v427 :: v428 :: v429 :: v430 :: v431 :: v432 :: v433 :: v434 :: v435 :: v436 :: v437 :: v438 :: v439 :: v440 :: v441 :: v442 :: v443 :: v444 :: v445 :: v446 :: v447 :: v448 :: v449 :: v450 :: v451 :: v452 :: v453 :: v454 :: v455 :: v456 :: v457 :: v458 :: v459 :: v460 :: v461 :: v462 :: v463 :: v464 :: v465 :: v466 :: v467 :: v468 :: v469 :: v470 :: v471 :: v472 :: v473 :: v474 :: v475 :: v476 :: v477 :: v478 :: v479 :: v480 :: v481 :: v482 :: v483 :: v484 :: v485 :: v486 :: v487 :: v488 :: v489 :: v490 :: v491 :: v492 :: v493 :: v494 :: v495 :: v496 :: v497 :: v498 :: v499 :: v500 :: v501 :: v502 :: v503 :: v504 :: v505 :: v506 :: v507 :: v508 :: v509 :: v510 :: v511 :: v512 :: v513 :: v514 :: v515 :: v516 :: v517 :: v518 :: v519 :: v520 :: v521 :: v522 :: v523 :: v524 :: v525 :: v526 :: v527 :: v528 :: v529 :: v530 :: v531 :: v532 :: v533 :: v534 :: v535 :: v536 :: v537 :: v538 :: v539 :: v540 :: v541 :: v542 :: v543 :: v544 :: v545 :: v546 :: v547 :: v548 :: v549 :: v550 :: v551 :: v552 :: v553 :: v554 :: v555 :: v556 :: v557 :: v558 :: v559 :: v560 :: v561 :: v562 :: v563 :: v564 :: v565 :: v566 :: v567 :: v568 :: v569 :: v570 :: v571 :: v572 :: v573 :: v574 :: v575 :: v576 :: v577 :: v578 :: v579 :: v580 :: v581 :: v582 :: v583 :: v584 :: v585 :: v586 :: v587 :: v588 :: v589 :: v590 :: v591 :: v592 :: v593 :: v594 :: v595 :: v596 :: []), []⟩ w := by
  have HB := Aside0.mk hB
  have HQ0 := Aside0.mk hq
  clear hB hq
  conv => arg 2; whnf
  cases ok6 with
  | false =>
    clear HM6 KR HT
    go_wp2
    all_goals ((try simp only [Exit.inBlock, Exit.then]); exact HQ0.out _ _ rfl HB.out)
  | true =>
    have HX6 := Aside0.mk (HM6.out rfl)
    clear HM6
    go_wp2_with fail
    refine (HX6.out _ _ _ KRe KR.out HT.out).mono ?_
    rintro e_ w1_ ⟨rfl, hb⟩
    have n_ := Aside0.mk (Kd.C_below KR.out hb)
    clear KR
    have KR := n_
    clear n_
    have n_ := Aside0.mk (below_step HB.out hb)
    clear HB
    have HB := n_
    clear n_
    have n_ := Aside0.mk (TabsE.below HT.out hb)
    clear HT
    have HT := n_
    clear n_
    clear hb
    clear HX6 KR HT
    go_wp2
    all_goals ((try simp only [Exit.inBlock, Exit.then]); exact HQ0.out _ _ rfl HB.out)
set_option maxHeartbeats 60000000 in
set_option maxRecDepth 100000 in
theorem mk_571 {s6 : ByteArray} {m6 : List Int} {n6 c75 : Nat} {A75 : Option Addr} {ok6 : Bool} {s5 : ByteArray} {m5 : List Int} {n5 c69 : Nat} {A69 : Option Addr} {ok5 : Bool} {v0 v1 v2 v3 v4 v5 v6 v7 v8 v9 v10 v11 v12 v13 v14 v15 v16 v17 v18 v19 v20 v21 v22 v23 v24 v25 v26 v27 v28 v29 v30 v31 v32 v33 v34 v35 v36 v37 v38 v39 v40 v41 v42 v43 v44 v45 v46 v47 v48 v49 v50 v51 v52 v53 v54 v55 v56 v57 v58 v59 v60 v61 v62 v63 v64 v65 v66 v67 v68 v72 v73 v77 v78 v79 v80 v81 v82 v83 v84 v85 v86 v87 v88 v89 v90 v91 v92 v93 v94 v95 v96 v97 v98 v99 v100 v101 v102 v103 v104 v105 v106 v107 v108 v109 v110 v111 v112 v113 v114 v115 v116 v117 v118 v119 v120 v121 v122 v123 v124 v125 v126 v127 v128 v129 v130 v131 v132 v133 v134 v135 v136 v137 v138 v139 v140 v141 v142 v143 v144 v145 v146 v147 v148 v149 v150 v151 v152 v153 v154 v155 v156 v157 v158 v159 v160 v161 v162 v163 v164 v165 v166 v167 v168 v169 v170 v171 v172 v173 v174 v175 v176 v177 v178 v179 v180 v181 v182 v183 v184 v185 v186 v187 v188 v189 v190 v191 v192 v193 v194 v195 v196 v197 v198 v199 v200 v201 v202 v203 v204 v205 v206 v207 v208 v209 v210 v211 v212 v213 v214 v215 v216 v217 v218 v219 v220 v221 v222 v223 v224 v225 v226 v227 v228 v229 v230 v231 v232 v233 v234 v235 v236 v237 v238 v239 v240 v241 v242 v243 v244 v245 v246 v247 v248 v249 v250 v251 v252 v253 v254 v255 v256 v257 v258 v259 v260 v261 v262 v263 v264 v265 v266 v267 v268 v269 v270 v271 v272 v273 v274 v275 v276 v277 v278 v279 v280 v281 v282 v283 v284 v285 v286 v287 v288 v289 v290 v291 v292 v293 v294 v295 v296 v297 v298 v299 v300 v301 v302 v303 v304 v305 v306 v307 v308 v309 v310 v311 v312 v313 v314 v315 v316 v317 v318 v319 v320 v321 v322 v323 v324 v325 v326 v327 v328 v329 v330 v331 v332 v333 v334 v335 v336 v337 v338 v339 v340 v341 v342 v343 v344 v345 v346 v347 v348 v349 v350 v351 v352 v353 v354 v355 v356 v357 v358 v359 v360 v361 v362 v363 v364 v365 v366 v367 v368 v369 v370 v371 v372 v373 v374 v375 v376 v377 v378 v379 v380 v381 v382 v383 v384 v385 v386 v387 v388 v389 v390 v391 v392 v393 v394 v395 v396 v397 v398 v399 v400 v401 v402 v403 v404 v405 v406 v407 v408 v409 v410 v411 v412 v413 v414 v415 v416 v417 v418 v419 v420 v421 v422 v423 v424 v425 v426 v427 v428 v429 v430 v431 v432 v433 v434 v435 v436 v437 v438 v439 v440 v441 v442 v443 v444 v445 v446 v447 v448 v449 v450 v451 v452 v453 v454 v455 v456 v457 v458 v459 v460 v461 v462 v463 v464 v465 v466 v467 v468 v469 v470 v471 v472 v473 v474 v475 v476 v477 v478 v479 v480 v481 v482 v483 v484 v485 v486 v487 v488 v489 v490 v491 v492 v493 v494 v495 v496 v497 v498 v499 v500 v501 v502 v503 v504 v505 v506 v507 v508 v509 v510 v511 v512 v513 v514 v515 v516 v517 v518 v519 v520 v521 v522 v523 v524 v525 v526 v527 v528 v529 v530 v531 v532 v533 v534 v535 v536 v537 v538 v539 v540 v541 v542 v543 v544 v545 v546 v547 v548 v549 v550 v551 v552 v553 v554 v555 v556 v557 v558 v559 v560 v561 v562 v563 v564 v565 v566 v567 v568 v569 v570 v571 v572 v573 v574 v575 v576 v577 v578 v579 v580 v581 v582 v583 v584 v585 v586 v587 v588 v589 v590 v591 v592 v593 v594 v595 v596 : Value} {Q : Exit → Act → World → Prop} {w0 w : World} (hq : ∀ (tm : Array Value) w', tm.getD 4 undef = .bool true → Below w0.heap.size w0 w' → Q .ret ⟨tm, []⟩ w') (hB : Below w0.heap.size w0 w) (HT : Aside0 (TabsE w)) (HM5 : Aside0 (ok5 = true → MP1 38 s5 m5 n5 true)) (HE5 : Aside0 (MSame m5 n5)) (KFe : n5 ≤ c69) (KF : Aside0 (Kd.C (Kd.int .i64) w A69 n5 m5)) (HM6 : Aside0 (ok6 = true → MT1 35 m6 n6 s6 true)) (KRe : n6 ≤ c75) (KR : Aside0 (Kd.C (Kd.int .i64) w A75 n6 m6)) :
    Code.wp Tryz.prog (mkDrop_ 32 mkBody) Q ⟨List.toArray (v0 :: v1 :: v2 :: v3 :: v4 :: v5 :: v6 :: v7 :: v8 :: v9 :: v10 :: v11 :: v12 :: v13 :: v14 :: v15 :: v16 :: v17 :: v18 :: v19 :: v20 :: v21 :: v22 :: v23 :: v24 :: v25 :: v26 :: v27 :: v28 :: v29 :: v30 :: v31 :: v32 :: v33 :: v34 :: v35 :: v36 :: v37 :: v38 :: v39 :: v40 :: v41 :: v42 :: v43 :: v44 :: v45 :: v46 :: v47 :: v48 :: v49 :: v50 :: v51 :: v52 :: v53 :: v54 :: v55 :: v56 :: v57 :: v58 :: v59 :: v60 :: v61 :: v62 :: v63 :: v64 :: v65 :: v66 :: v67 :: v68 :: .slice A69 n5 c69 :: .string s5 :: .bool ok5 :: v72 :: v73 :: .string s6 :: .slice A75 n6 c75 :: .bool ok6 :: v77 :: v78 :: v79 :: v80 :: v81 :: v82 :: v83 :: v84 :: v85 :: v86 :: v87 :: v88 :: v89 :: v90 :: v91 :: v92 :: v93 :: v94 :: v95 :: v96 :: v97 :: v98 :: v99 :: v100 :: v101 :: v102 :: v103 :: v104 :: v105 :: v106 :: v107 :: v108 :: v109 :: v110 :: v111 :: v112 :: v113 :: v114 :: v115 :: v116 :: v117 :: v118 :: v119 :: v120 :: v121 :: v122 :: v123 :: v124 :: v125 :: v126 :: v127 :: v128 :: v129 :: v130 :: v131 :: v132 :: v133 :: v134 :: v135 :: v136 :: v137 :: v138 :: v139 :: v140 :: v141 :: v142 :: v143 :: v144 :: v145 :: v146 :: v147 :: v148 :: v149 :: v150 :: v151 :: v152 :: v153 :: v154 :: v155 :: v156 :: v157 :: v158 :: v159 :: v160 :: v161 :: v162 :: v163 :: v164 :: v165 :: v166 :: v167 :: v168 :: v169 :: v170 :: v171 :: v172 :: v173 :: v174 :: v175 :: v176 :: v177 :: v178 :: v179 :: v180 :: v181 :: v182 :: v183 :: v184 :: v185 :: v186 :: v187 :: v188 :: v189 :: v190 :: v191 :: v192 :: v193 :: v194 :: v195 :: v196 :: v197 :: v198 :: v199 :: v200 :: v201 :: v202 :: v203 :: v204 :: v205 :: v206 :: v207 :: v208 :: v209 :: v210 :: v211 :: v212 :: v213 :: v214 :: v215 :: v216 :: v217 :: v218 :: v219 :: v220 :: v221 :: v222 :: v223 :: v224 :: v225 :: v226 :: v227 :: v228 :: v229 :: v230 :: v231 :: v232 :: v233 :: v234 :: v235 :: v236 :: v237 :: v238 :: v239 :: v240 :: v241 :: v242 :: v243 :: v244 :: v245 :: v246 :: v247 :: v248 :: v249 :: v250 :: v251 :: v252 :: v253 :: v254 :: v255 :: v256 :: v257 :: v258 :: v259 :: v260 :: v261 :: v262 :: v263 :: v264 :: v265 :: v266 :: v267 :: v268 :: v269 :: v270 :: v271 :: v272 :: v273 :: v274 :: v275 :: v276 :: v277 :: v278 :: v279 :: v280 :: v281 :: v282 :: v283 :: v284 :: v285 :: v286 :: v287 :: v288 :: v289 :: v290 :: v291 :: v292 :: v293 :: v294 :: v295 :: v296 :: v297 :: v298 :: v299 :: v300 :: v301 :: v302 :: v303 :: v304 :: v305 :: v306 :: v307 :: v308 :: v309 :: v310 :: v311 :: v312 :: v313 :: v314 :: v315 :: v316 :: v317 :: v318 :: v319 :: v320 :: v321 :: v322 :: v323 :: v324 :: v325 :: v326 :: v327 :: v328 :: v329 :: v330 :: v331 :: v332 :: v333 :: v334 :: v335 :: v336 :: v337 :: v338 :: v339 :: v340 :: v341 :: v342 :: v343 :: v344 :: v345 :: v346 :: v347 :: v348 :: v349 :: v350 :: v351 :: v352 :: v353 :: v354 :: v355 :: v356 :: v357 :: v358 :: v359 :: v360 :: v361 :: v362 :: v363 :: v364 :: v365 :: v366 :: v367 :: v368 :: v369 :: v370 :: v371 :: v372 :: v373 :: v374 :: v375 :: v376 :: v377 :: v378 :: v379 :: v380 :: v381 :: v382 :: v383 :: v384 :: v385 :: v386 :: v387 :: v388 :: v389 :: v390 :: v391 :: v392 :: v393 :: v394 :: v395 :: v396 :: v397 :: v398 :: v399 :: v400 :: v401 :: v402 :: v403 :: v404 :: v405 :: v406 :: v407 :: v408 :: v409 :: v410 :: v411 :: v412 :: v413 :: v414 :: v415 :: v416 :: v417 :: v418 :: v419 :: v420 :: v421 :: v422 :: v423 :: v424 :: v425 :: v426 :: v427 :: v428 :: v429 :: v430 :: v431 :: v432 :: v433 :: v434 :: v435 :: v436 :: v437 :: v438 :: v439 :: v440 :: v441 :: v442 :: v443 :: v444 :: v445 :: v446 :: v447 :: v448 :: v449 :: v450 :: v451 :: v452 :: v453 :: v454 :: v455 :: v456 :: v457 :: v458 :: v459 :: v460 :: v461 :: v462 :: v463 :: v464 :: v465 :: v466 :: v467 :: v468 :: v469 :: v470 :: v471 :: v472 :: v473 :: v474 :: v475 :: v476 :: v477 :: v478 :: v479 :: v480 :: v481 :: v482 :: v483 :: v484 :: v485 :: v486 :: v487 :: v488 :: v489 :: v490 :: v491 :: v492 :: v493 :: v494 :: v495 :: v496 :: v497 :: v498 :: v499 :: v500 :: v501 :: v502 :: v503 :: v504 :: v505 :: v506 :: v507 :: v508 :: v509 :: v510 :: v511 :: v512 :: v513 :: v514 :: v515 :: v516 :: v517 :: v518 :: v519 :: v520 :: v521 :: v522 :: v523 :: v524 :: v525 :: v526 :: v527 :: v528 :: v529 :: v530 :: v531 :: v532 :: v533 :: v534 :: v535 :: v536 :: v537 :: v538 :: v539 :: v540 :: v541 :: v542 :: v543 :: v544 :: v545 :: v546 :: v547 :: v548 :: v549 :: v550 :: v551 :: v552 :: v553 :: v554 :: v555 :: v556 :: v557 :: v558 :: v559 :: v560 :: v561 :: v562 :: v563 :: v564 :: v565 :: v566 :: v567 :: v568 :: v569 :: v570 :: v571 :: v572 :: v573 :: v574 :: v575 :: v576 :: v577 :: v578 :: v579 :: v580 :: v581 :: v582 :: v583 :: v584 :: v585 :: v586 :: v587 :: v588 :: v589 :: v590 :: v591 :: v592 :: v593 :: v594 :: v595 :: v596 :: []), []⟩ w := by
  have HB := Aside0.mk hB
  have HQ0 := Aside0.mk hq
  clear hB hq
  conv => arg 2; whnf
  go_upto_if 571 with fail
  obtain ⟨wC, rfl⟩ : ∃ wC, wC = w := ⟨_, rfl⟩
  have HA0 := Aside0.mk (Below.refl wC.heap.size wC)
  go_cut [] from 597 (fun wc => Aside0 (Below wC.heap.size wC wc))
  case first =>
    clear HB HQ0
    clear KR
    clear HM6
    cases ok5 with
    | false => go_wp2; go_meet; case rel => exact HA0
    | true =>
      have HX5 := Aside0.mk (HM5.out rfl)
      clear HM5
      go_wp2_with fail
      refine (HX5.out _   HT.out).mono ?_
      rintro e_ w1_ ⟨AKP_, cKP_, rfl, KPe, hKP_, hb⟩
      have KP_ := Aside0.mk hKP_
      clear hKP_
      have n_ := Aside0.mk (Kd.C_below KF.out hb)
      clear KF
      have KF := n_
      clear n_
      have n_ := Aside0.mk (below_step HA0.out hb)
      clear HA0
      have HA0 := n_
      clear n_
      have n_ := Aside0.mk (TabsE.below HT.out hb)
      clear HT
      have HT := n_
      clear n_
      clear hb
      have KP := KP_
      clear KP_
      go_wp2_with fail
      refine (HE5.out _ _ _ _ _ KPe KP.out KFe KF.out ).mono ?_
      rintro e_ w2_ ⟨rfl, hb⟩
      have n_ := Aside0.mk (Kd.C_below KF.out hb)
      clear KF
      have KF := n_
      clear n_
      have n_ := Aside0.mk (Kd.C_below KP.out hb)
      clear KP
      have KP := n_
      clear n_
      have n_ := Aside0.mk (below_step HA0.out hb)
      clear HA0
      have HA0 := n_
      clear n_
      have n_ := Aside0.mk (TabsE.below HT.out hb)
      clear HT
      have HT := n_
      clear n_
      clear hb
      clear HX5 HE5
      go_wp2
      go_meet
      case rel => exact HA0
  case rest =>
    clear KF
    have hb := hcut.out
    clear hcut HA0
    have n_ := Aside0.mk (Kd.C_below KR.out hb)
    clear KR
    have KR := n_
    clear n_
    have n_ := Aside0.mk (below_step HB.out hb)
    clear HB
    have HB := n_
    clear n_
    have n_ := Aside0.mk (TabsE.below HT.out hb)
    clear HT
    have HT := n_
    clear n_
    clear hb
    go_step
    exact mk_585 HQ0.out HB.out HT HM6 KRe KR
set_option maxHeartbeats 60000000 in
set_option maxRecDepth 100000 in
theorem mk_570 {s6 : ByteArray} {m6 : List Int} {n6 c75 : Nat} {A75 : Option Addr} {ok6 : Bool} {s5 : ByteArray} {m5 : List Int} {n5 c69 : Nat} {A69 : Option Addr} {ok5 : Bool} {f3 p3 : Int} {ad : List Int} {n3 na c56 c58 : Nat} {A56 A58 : Option Addr} {ok3 : Bool} {v0 v1 v2 v3 v4 v5 v6 v7 v8 v9 v10 v11 v12 v13 v14 v15 v16 v17 v18 v19 v20 v21 v22 v23 v24 v25 v26 v27 v28 v29 v30 v31 v32 v33 v34 v35 v36 v37 v38 v39 v40 v41 v42 v43 v44 v45 v46 v47 v48 v49 v50 v51 v52 v53 v54 v60 v61 v62 v63 v64 v65 v66 v67 v68 v72 v73 v77 v78 v79 v80 v81 v82 v83 v84 v85 v86 v87 v88 v89 v90 v91 v92 v93 v94 v95 v96 v97 v98 v99 v100 v101 v102 v103 v104 v105 v106 v107 v108 v109 v110 v111 v112 v113 v114 v115 v116 v117 v118 v119 v120 v121 v122 v123 v124 v125 v126 v127 v128 v129 v130 v131 v132 v133 v134 v135 v136 v137 v138 v139 v140 v141 v142 v143 v144 v145 v146 v147 v148 v149 v150 v151 v152 v153 v154 v155 v156 v157 v158 v159 v160 v161 v162 v163 v164 v165 v166 v167 v168 v169 v170 v171 v172 v173 v174 v175 v176 v177 v178 v179 v180 v181 v182 v183 v184 v185 v186 v187 v188 v189 v190 v191 v192 v193 v194 v195 v196 v197 v198 v199 v200 v201 v202 v203 v204 v205 v206 v207 v208 v209 v210 v211 v212 v213 v214 v215 v216 v217 v218 v219 v220 v221 v222 v223 v224 v225 v226 v227 v228 v229 v230 v231 v232 v233 v234 v235 v236 v237 v238 v239 v240 v241 v242 v243 v244 v245 v246 v247 v248 v249 v250 v251 v252 v253 v254 v255 v256 v257 v258 v259 v260 v261 v262 v263 v264 v265 v266 v267 v268 v269 v270 v271 v272 v273 v274 v275 v276 v277 v278 v279 v280 v281 v282 v283 v284 v285 v286 v287 v288 v289 v290 v291 v292 v293 v294 v295 v296 v297 v298 v299 v300 v301 v302 v303 v304 v305 v306 v307 v308 v309 v310 v311 v312 v313 v314 v315 v316 v317 v318 v319 v320 v321 v322 v323 v324 v325 v326 v327 v328 v329 v330 v331 v332 v333 v334 v335 v336 v337 v338 v339 v340 v341 v342 v343 v344 v345 v346 v347 v348 v349 v350 v351 v352 v353 v354 v355 v356 v357 v358 v359 v360 v361 v362 v363 v364 v365 v366 v367 v368 v369 v370 v371 v372 v373 v374 v375 v376 v377 v378 v379 v380 v381 v382 v383 v384 v385 v386 v387 v388 v389 v390 v391 v392 v393 v394 v395 v396 v397 v398 v399 v400 v401 v402 v403 v404 v405 v406 v407 v408 v409 v410 v411 v412 v413 v414 v415 v416 v417 v418 v419 v420 v421 v422 v423 v424 v425 v426 v427 v428 v429 v430 v431 v432 v433 v434 v435 v436 v437 v438 v439 v440 v441 v442 v443 v444 v445 v446 v447 v448 v449 v450 v451 v452 v453 v454 v455 v456 v457 v458 v459 v460 v461 v462 v463 v464 v465 v466 v467 v468 v469 v470 v471 v472 v473 v474 v475 v476 v477 v478 v479 v480 v481 v482 v483 v484 v485 v486 v487 v488 v489 v490 v491 v492 v493 v494 v495 v496 v497 v498 v499 v500 v501 v502 v503 v504 v505 v506 v507 v508 v509 v510 v511 v512 v513 v514 v515 v516 v517 v518 v519 v520 v521 v522 v523 v524 v525 v526 v527 v528 v529 v530 v531 v532 v533 v534 v535 v536 v537 v538 v539 v540 v541 v542 v543 v544 v545 v546 v547 v548 v549 v550 v551 v552 v553 v554 v555 v556 v557 v558 v559 v560 v561 v562 v563 v564 v565 v566 v567 v568 v569 v570 v571 v572 v573 v574 v575 v576 v577 v578 v579 v580 v581 v582 v583 v584 v585 v586 v587 v588 v589 v590 v591 v592 v593 v594 v595 v596 : Value} {Q : Exit → Act → World → Prop} {w0 w : World} (hq : ∀ (tm : Array Value) w', tm.getD 4 undef = .bool true → Below w0.heap.size w0 w' → Q .ret ⟨tm, []⟩ w') (hB : Below w0.heap.size w0 w) (HT : Aside0 (TabsE w)) (HM3 : Aside0 (ok3 = true → MB2 15 f3 ad na true ∧ IntKind.i64.wrap ((n3 : Int) + 1) = (na : Int) ∧ MHas ad na p3 true)) (KAe : na ≤ c58) (KA : Aside0 (Kd.C (Kd.int .i64) w A58 na ad)) (HM5 : Aside0 (ok5 = true → MP1 38 s5 m5 n5 true)) (HE5 : Aside0 (MSame m5 n5)) (KFe : n5 ≤ c69) (KF : Aside0 (Kd.C (Kd.int .i64) w A69 n5 m5)) (HM6 : Aside0 (ok6 = true → MT1 35 m6 n6 s6 true)) (KRe : n6 ≤ c75) (KR : Aside0 (Kd.C (Kd.int .i64) w A75 n6 m6)) :
    Code.wp Tryz.prog (mkDrop_ 31 mkBody) Q ⟨List.toArray (v0 :: v1 :: v2 :: v3 :: v4 :: v5 :: v6 :: v7 :: v8 :: v9 :: v10 :: v11 :: v12 :: v13 :: v14 :: v15 :: v16 :: v17 :: v18 :: v19 :: v20 :: v21 :: v22 :: v23 :: v24 :: v25 :: v26 :: v27 :: v28 :: v29 :: v30 :: v31 :: v32 :: v33 :: v34 :: v35 :: v36 :: v37 :: v38 :: v39 :: v40 :: v41 :: v42 :: v43 :: v44 :: v45 :: v46 :: v47 :: v48 :: v49 :: v50 :: v51 :: v52 :: v53 :: v54 :: .int .i64 f3 :: .slice A56 n3 c56 :: .int .i64 p3 :: .slice A58 na c58 :: .bool ok3 :: v60 :: v61 :: v62 :: v63 :: v64 :: v65 :: v66 :: v67 :: v68 :: .slice A69 n5 c69 :: .string s5 :: .bool ok5 :: v72 :: v73 :: .string s6 :: .slice A75 n6 c75 :: .bool ok6 :: v77 :: v78 :: v79 :: v80 :: v81 :: v82 :: v83 :: v84 :: v85 :: v86 :: v87 :: v88 :: v89 :: v90 :: v91 :: v92 :: v93 :: v94 :: v95 :: v96 :: v97 :: v98 :: v99 :: v100 :: v101 :: v102 :: v103 :: v104 :: v105 :: v106 :: v107 :: v108 :: v109 :: v110 :: v111 :: v112 :: v113 :: v114 :: v115 :: v116 :: v117 :: v118 :: v119 :: v120 :: v121 :: v122 :: v123 :: v124 :: v125 :: v126 :: v127 :: v128 :: v129 :: v130 :: v131 :: v132 :: v133 :: v134 :: v135 :: v136 :: v137 :: v138 :: v139 :: v140 :: v141 :: v142 :: v143 :: v144 :: v145 :: v146 :: v147 :: v148 :: v149 :: v150 :: v151 :: v152 :: v153 :: v154 :: v155 :: v156 :: v157 :: v158 :: v159 :: v160 :: v161 :: v162 :: v163 :: v164 :: v165 :: v166 :: v167 :: v168 :: v169 :: v170 :: v171 :: v172 :: v173 :: v174 :: v175 :: v176 :: v177 :: v178 :: v179 :: v180 :: v181 :: v182 :: v183 :: v184 :: v185 :: v186 :: v187 :: v188 :: v189 :: v190 :: v191 :: v192 :: v193 :: v194 :: v195 :: v196 :: v197 :: v198 :: v199 :: v200 :: v201 :: v202 :: v203 :: v204 :: v205 :: v206 :: v207 :: v208 :: v209 :: v210 :: v211 :: v212 :: v213 :: v214 :: v215 :: v216 :: v217 :: v218 :: v219 :: v220 :: v221 :: v222 :: v223 :: v224 :: v225 :: v226 :: v227 :: v228 :: v229 :: v230 :: v231 :: v232 :: v233 :: v234 :: v235 :: v236 :: v237 :: v238 :: v239 :: v240 :: v241 :: v242 :: v243 :: v244 :: v245 :: v246 :: v247 :: v248 :: v249 :: v250 :: v251 :: v252 :: v253 :: v254 :: v255 :: v256 :: v257 :: v258 :: v259 :: v260 :: v261 :: v262 :: v263 :: v264 :: v265 :: v266 :: v267 :: v268 :: v269 :: v270 :: v271 :: v272 :: v273 :: v274 :: v275 :: v276 :: v277 :: v278 :: v279 :: v280 :: v281 :: v282 :: v283 :: v284 :: v285 :: v286 :: v287 :: v288 :: v289 :: v290 :: v291 :: v292 :: v293 :: v294 :: v295 :: v296 :: v297 :: v298 :: v299 :: v300 :: v301 :: v302 :: v303 :: v304 :: v305 :: v306 :: v307 :: v308 :: v309 :: v310 :: v311 :: v312 :: v313 :: v314 :: v315 :: v316 :: v317 :: v318 :: v319 :: v320 :: v321 :: v322 :: v323 :: v324 :: v325 :: v326 :: v327 :: v328 :: v329 :: v330 :: v331 :: v332 :: v333 :: v334 :: v335 :: v336 :: v337 :: v338 :: v339 :: v340 :: v341 :: v342 :: v343 :: v344 :: v345 :: v346 :: v347 :: v348 :: v349 :: v350 :: v351 :: v352 :: v353 :: v354 :: v355 :: v356 :: v357 :: v358 :: v359 :: v360 :: v361 :: v362 :: v363 :: v364 :: v365 :: v366 :: v367 :: v368 :: v369 :: v370 :: v371 :: v372 :: v373 :: v374 :: v375 :: v376 :: v377 :: v378 :: v379 :: v380 :: v381 :: v382 :: v383 :: v384 :: v385 :: v386 :: v387 :: v388 :: v389 :: v390 :: v391 :: v392 :: v393 :: v394 :: v395 :: v396 :: v397 :: v398 :: v399 :: v400 :: v401 :: v402 :: v403 :: v404 :: v405 :: v406 :: v407 :: v408 :: v409 :: v410 :: v411 :: v412 :: v413 :: v414 :: v415 :: v416 :: v417 :: v418 :: v419 :: v420 :: v421 :: v422 :: v423 :: v424 :: v425 :: v426 :: v427 :: v428 :: v429 :: v430 :: v431 :: v432 :: v433 :: v434 :: v435 :: v436 :: v437 :: v438 :: v439 :: v440 :: v441 :: v442 :: v443 :: v444 :: v445 :: v446 :: v447 :: v448 :: v449 :: v450 :: v451 :: v452 :: v453 :: v454 :: v455 :: v456 :: v457 :: v458 :: v459 :: v460 :: v461 :: v462 :: v463 :: v464 :: v465 :: v466 :: v467 :: v468 :: v469 :: v470 :: v471 :: v472 :: v473 :: v474 :: v475 :: v476 :: v477 :: v478 :: v479 :: v480 :: v481 :: v482 :: v483 :: v484 :: v485 :: v486 :: v487 :: v488 :: v489 :: v490 :: v491 :: v492 :: v493 :: v494 :: v495 :: v496 :: v497 :: v498 :: v499 :: v500 :: v501 :: v502 :: v503 :: v504 :: v505 :: v506 :: v507 :: v508 :: v509 :: v510 :: v511 :: v512 :: v513 :: v514 :: v515 :: v516 :: v517 :: v518 :: v519 :: v520 :: v521 :: v522 :: v523 :: v524 :: v525 :: v526 :: v527 :: v528 :: v529 :: v530 :: v531 :: v532 :: v533 :: v534 :: v535 :: v536 :: v537 :: v538 :: v539 :: v540 :: v541 :: v542 :: v543 :: v544 :: v545 :: v546 :: v547 :: v548 :: v549 :: v550 :: v551 :: v552 :: v553 :: v554 :: v555 :: v556 :: v557 :: v558 :: v559 :: v560 :: v561 :: v562 :: v563 :: v564 :: v565 :: v566 :: v567 :: v568 :: v569 :: v570 :: v571 :: v572 :: v573 :: v574 :: v575 :: v576 :: v577 :: v578 :: v579 :: v580 :: v581 :: v582 :: v583 :: v584 :: v585 :: v586 :: v587 :: v588 :: v589 :: v590 :: v591 :: v592 :: v593 :: v594 :: v595 :: v596 :: []), []⟩ w := by
  have HB := Aside0.mk hB
  have HQ0 := Aside0.mk hq
  clear hB hq
  conv => arg 2; whnf
  go_upto_region 59 with (fail)
  obtain ⟨wC, rfl⟩ : ∃ wC, wC = w := ⟨_, rfl⟩
  have HA0 := Aside0.mk (Below.refl wC.heap.size wC)
  go_cut [570] from 597 (fun v570 wc => v570 = .bool false ∧ Aside0 (Below wC.heap.size wC wc))
  case first =>
    clear HB HQ0
    clear KR
    clear KF
    clear HM6 HM5 HE5
    cases ok3 with
    | false => go_wp2; go_meet; case rel => exact ⟨rfl, HA0⟩
    | true =>
      obtain ⟨y1, q1, y2⟩ := HM3.out rfl
      have Y1 := Aside0.mk y1
      have Y2 := Aside0.mk y2
      clear y1 y2 HM3
      go_wp2_with fail
      refine (Y1.out _ _ _ KAe KA.out ).mono ?_
      rintro e_ w1_ ⟨rfl, hb⟩
      have n_ := Aside0.mk (Kd.C_below KA.out hb)
      clear KA
      have KA := n_
      clear n_
      have n_ := Aside0.mk (below_step HA0.out hb)
      clear HA0
      have HA0 := n_
      clear n_
      have n_ := Aside0.mk (TabsE.below HT.out hb)
      clear HT
      have HT := n_
      clear n_
      clear hb
      go_wp2_with fail
      refine (Y2.out _ _ _ KAe KA.out ).mono ?_
      rintro e_ w2_ ⟨rfl, hb⟩
      have n_ := Aside0.mk (Kd.C_below KA.out hb)
      clear KA
      have KA := n_
      clear n_
      have n_ := Aside0.mk (below_step HA0.out hb)
      clear HA0
      have HA0 := n_
      clear n_
      have n_ := Aside0.mk (TabsE.below HT.out hb)
      clear HT
      have HT := n_
      clear n_
      clear hb
      clear KA
      clear Y1 Y2
      go_wp2
      go_meet
      case rel => exact ⟨rfl, HA0⟩
  case rest =>
    obtain ⟨rfl, hb_⟩ := hcut
    have hb := hb_.out
    clear hb_ HA0
    clear KA
    clear HM3
    have n_ := Aside0.mk (Kd.C_below KR.out hb)
    clear KR
    have KR := n_
    clear n_
    have n_ := Aside0.mk (Kd.C_below KF.out hb)
    clear KF
    have KF := n_
    clear n_
    have n_ := Aside0.mk (below_step HB.out hb)
    clear HB
    have HB := n_
    clear n_
    have n_ := Aside0.mk (TabsE.below HT.out hb)
    clear HT
    have HT := n_
    clear n_
    clear hb
    go_upto_if 570 with fail
    obtain ⟨wD, rfl⟩ : ∃ wD, wD = wc := ⟨_, rfl⟩
    have HA0 := Aside0.mk (Below.refl wD.heap.size wD)
    go_cut [] from 597 (fun wc => Aside0 (Below wD.heap.size wD wc))
    case first => go_wp2; go_meet; case rel => exact HA0
    case rest =>
      have hb := hcut.out
      clear hcut HA0
      have n_ := Aside0.mk (Kd.C_below KR.out hb)
      clear KR
      have KR := n_
      clear n_
      have n_ := Aside0.mk (Kd.C_below KF.out hb)
      clear KF
      have KF := n_
      clear n_
      have n_ := Aside0.mk (below_step HB.out hb)
      clear HB
      have HB := n_
      clear n_
      have n_ := Aside0.mk (TabsE.below HT.out hb)
      clear HT
      have HT := n_
      clear n_
      clear hb
      go_step
      exact mk_571 HQ0.out HB.out HT HM5 HE5 KFe KF HM6 KRe KR
set_option maxHeartbeats 60000000 in
set_option maxRecDepth 100000 in
theorem mk_549 {s6 : ByteArray} {m6 : List Int} {n6 c75 : Nat} {A75 : Option Addr} {ok6 : Bool} {s5 : ByteArray} {m5 : List Int} {n5 c69 : Nat} {A69 : Option Addr} {ok5 : Bool} {f3 p3 : Int} {ad : List Int} {n3 na c56 c58 : Nat} {A56 A58 : Option Addr} {ok3 : Bool} {dr : List S65} {dp : List Int} {nd n4 c47 c49 c60 c65 c67 c77 : Nat} {A47 A49 A60 A65 A67 A77 : Option Addr} {ok2 ok4 : Bool} {t2 : Int} {v0 v1 v2 v3 v4 v5 v6 v7 v8 v9 v10 v11 v12 v13 v14 v15 v16 v17 v18 v19 v20 v21 v22 v23 v24 v25 v26 v27 v28 v29 v30 v31 v32 v33 v34 v35 v36 v37 v38 v39 v40 v41 v42 v43 v44 v45 v46 v62 v63 v64 v79 v80 v81 v82 v83 v84 v85 v86 v87 v88 v89 v90 v91 v92 v93 v94 v95 v96 v97 v98 v99 v100 v101 v102 v103 v104 v105 v106 v107 v108 v109 v110 v111 v112 v113 v114 v115 v116 v117 v118 v119 v120 v121 v122 v123 v124 v125 v126 v127 v128 v129 v130 v131 v132 v133 v134 v135 v136 v137 v138 v139 v140 v141 v142 v143 v144 v145 v146 v147 v148 v149 v150 v151 v152 v153 v154 v155 v156 v157 v158 v159 v160 v161 v162 v163 v164 v165 v166 v167 v168 v169 v170 v171 v172 v173 v174 v175 v176 v177 v178 v179 v180 v181 v182 v183 v184 v185 v186 v187 v188 v189 v190 v191 v192 v193 v194 v195 v196 v197 v198 v199 v200 v201 v202 v203 v204 v205 v206 v207 v208 v209 v210 v211 v212 v213 v214 v215 v216 v217 v218 v219 v220 v221 v222 v223 v224 v225 v226 v227 v228 v229 v230 v231 v232 v233 v234 v235 v236 v237 v238 v239 v240 v241 v242 v243 v244 v245 v246 v247 v248 v249 v250 v251 v252 v253 v254 v255 v256 v257 v258 v259 v260 v261 v262 v263 v264 v265 v266 v267 v268 v269 v270 v271 v272 v273 v274 v275 v276 v277 v278 v279 v280 v281 v282 v283 v284 v285 v286 v287 v288 v289 v290 v291 v292 v293 v294 v295 v296 v297 v298 v299 v300 v301 v302 v303 v304 v305 v306 v307 v308 v309 v310 v311 v312 v313 v314 v315 v316 v317 v318 v319 v320 v321 v322 v323 v324 v325 v326 v327 v328 v329 v330 v331 v332 v333 v334 v335 v336 v337 v338 v339 v340 v341 v342 v343 v344 v345 v346 v347 v348 v349 v350 v351 v352 v353 v354 v355 v356 v357 v358 v359 v360 v361 v362 v363 v364 v365 v366 v367 v368 v369 v370 v371 v372 v373 v374 v375 v376 v377 v378 v379 v380 v381 v382 v383 v384 v385 v386 v387 v388 v389 v390 v391 v392 v393 v394 v395 v396 v397 v398 v399 v400 v401 v402 v403 v404 v405 v406 v407 v408 v409 v410 v411 v412 v413 v414 v415 v416 v417 v418 v419 v420 v421 v422 v423 v424 v425 v426 v427 v428 v429 v430 v431 v432 v433 v434 v435 v436 v437 v438 v439 v440 v441 v442 v443 v444 v445 v446 v447 v448 v449 v450 v451 v452 v453 v454 v455 v456 v457 v458 v459 v460 v461 v462 v463 v464 v465 v466 v467 v468 v469 v470 v471 v472 v473 v474 v475 v476 v477 v478 v479 v480 v481 v482 v483 v484 v485 v486 v487 v488 v489 v490 v491 v492 v493 v494 v495 v496 v497 v498 v499 v500 v501 v502 v503 v504 v505 v506 v507 v508 v509 v510 v511 v512 v513 v514 v515 v516 v517 v518 v519 v520 v521 v522 v523 v524 v525 v526 v527 v528 v529 v530 v531 v532 v533 v534 v535 v536 v537 v538 v539 v540 v541 v542 v543 v544 v545 v546 v547 v548 v549 v550 v551 v552 v553 v554 v555 v556 v557 v558 v559 v560 v561 v562 v563 v564 v565 v566 v567 v568 v569 v570 v571 v572 v573 v574 v575 v576 v577 v578 v579 v580 v581 v582 v583 v584 v585 v586 v587 v588 v589 v590 v591 v592 v593 v594 v595 v596 : Value} {Q : Exit → Act → World → Prop} {w0 w : World} (hq : ∀ (tm : Array Value) w', tm.getD 4 undef = .bool true → Below w0.heap.size w0 w' → Q .ret ⟨tm, []⟩ w') (hB : Below w0.heap.size w0 w) (HT : Aside0 (TabsE w)) (HE2 : Aside0 (MSameD dr nd)) (HE3 : Aside0 (MSame ad na)) (HE4 : Aside0 (MSame dp n4)) (HE6 : Aside0 (MSame m6 n6)) (KDe : nd ≤ c47) (KD : Aside0 (Kd.C k65 w A47 nd dr)) (KEe : nd ≤ c49) (KE : Aside0 (Kd.C k65 w A49 nd dr)) (KBe : na ≤ c60) (KB : Aside0 (Kd.C (Kd.int .i64) w A60 na ad)) (KLe : n4 ≤ c65) (KL : Aside0 (Kd.C (Kd.int .i64) w A65 n4 dp)) (KMe : n4 ≤ c67) (KM : Aside0 (Kd.C (Kd.int .i64) w A67 n4 dp)) (KSe : n6 ≤ c77) (KS : Aside0 (Kd.C (Kd.int .i64) w A77 n6 m6)) (HM3 : Aside0 (ok3 = true → MB2 15 f3 ad na true ∧ IntKind.i64.wrap ((n3 : Int) + 1) = (na : Int) ∧ MHas ad na p3 true)) (KAe : na ≤ c58) (KA : Aside0 (Kd.C (Kd.int .i64) w A58 na ad)) (HM5 : Aside0 (ok5 = true → MP1 38 s5 m5 n5 true)) (HE5 : Aside0 (MSame m5 n5)) (KFe : n5 ≤ c69) (KF : Aside0 (Kd.C (Kd.int .i64) w A69 n5 m5)) (HM6 : Aside0 (ok6 = true → MT1 35 m6 n6 s6 true)) (KRe : n6 ≤ c75) (KR : Aside0 (Kd.C (Kd.int .i64) w A75 n6 m6)) :
    Code.wp Tryz.prog (mkDrop_ 30 mkBody) Q ⟨List.toArray (v0 :: v1 :: v2 :: v3 :: v4 :: v5 :: v6 :: v7 :: v8 :: v9 :: v10 :: v11 :: v12 :: v13 :: v14 :: v15 :: v16 :: v17 :: v18 :: v19 :: v20 :: v21 :: v22 :: v23 :: v24 :: v25 :: v26 :: v27 :: v28 :: v29 :: v30 :: v31 :: v32 :: v33 :: v34 :: v35 :: v36 :: v37 :: v38 :: v39 :: v40 :: v41 :: v42 :: v43 :: v44 :: v45 :: v46 :: .slice A47 nd c47 :: .bool ok2 :: .slice A49 nd c49 :: .bool ok2 :: .int .i64 t2 :: .bool ok2 :: .int .i64 t2 :: .bool ok2 :: .int .i64 f3 :: .slice A56 n3 c56 :: .int .i64 p3 :: .slice A58 na c58 :: .bool ok3 :: .slice A60 na c60 :: .bool ok3 :: v62 :: v63 :: v64 :: .slice A65 n4 c65 :: .bool ok4 :: .slice A67 n4 c67 :: .bool ok4 :: .slice A69 n5 c69 :: .string s5 :: .bool ok5 :: .string s5 :: .bool ok5 :: .string s6 :: .slice A75 n6 c75 :: .bool ok6 :: .slice A77 n6 c77 :: .bool ok6 :: v79 :: v80 :: v81 :: v82 :: v83 :: v84 :: v85 :: v86 :: v87 :: v88 :: v89 :: v90 :: v91 :: v92 :: v93 :: v94 :: v95 :: v96 :: v97 :: v98 :: v99 :: v100 :: v101 :: v102 :: v103 :: v104 :: v105 :: v106 :: v107 :: v108 :: v109 :: v110 :: v111 :: v112 :: v113 :: v114 :: v115 :: v116 :: v117 :: v118 :: v119 :: v120 :: v121 :: v122 :: v123 :: v124 :: v125 :: v126 :: v127 :: v128 :: v129 :: v130 :: v131 :: v132 :: v133 :: v134 :: v135 :: v136 :: v137 :: v138 :: v139 :: v140 :: v141 :: v142 :: v143 :: v144 :: v145 :: v146 :: v147 :: v148 :: v149 :: v150 :: v151 :: v152 :: v153 :: v154 :: v155 :: v156 :: v157 :: v158 :: v159 :: v160 :: v161 :: v162 :: v163 :: v164 :: v165 :: v166 :: v167 :: v168 :: v169 :: v170 :: v171 :: v172 :: v173 :: v174 :: v175 :: v176 :: v177 :: v178 :: v179 :: v180 :: v181 :: v182 :: v183 :: v184 :: v185 :: v186 :: v187 :: v188 :: v189 :: v190 :: v191 :: v192 :: v193 :: v194 :: v195 :: v196 :: v197 :: v198 :: v199 :: v200 :: v201 :: v202 :: v203 :: v204 :: v205 :: v206 :: v207 :: v208 :: v209 :: v210 :: v211 :: v212 :: v213 :: v214 :: v215 :: v216 :: v217 :: v218 :: v219 :: v220 :: v221 :: v222 :: v223 :: v224 :: v225 :: v226 :: v227 :: v228 :: v229 :: v230 :: v231 :: v232 :: v233 :: v234 :: v235 :: v236 :: v237 :: v238 :: v239 :: v240 :: v241 :: v242 :: v243 :: v244 :: v245 :: v246 :: v247 :: v248 :: v249 :: v250 :: v251 :: v252 :: v253 :: v254 :: v255 :: v256 :: v257 :: v258 :: v259 :: v260 :: v261 :: v262 :: v263 :: v264 :: v265 :: v266 :: v267 :: v268 :: v269 :: v270 :: v271 :: v272 :: v273 :: v274 :: v275 :: v276 :: v277 :: v278 :: v279 :: v280 :: v281 :: v282 :: v283 :: v284 :: v285 :: v286 :: v287 :: v288 :: v289 :: v290 :: v291 :: v292 :: v293 :: v294 :: v295 :: v296 :: v297 :: v298 :: v299 :: v300 :: v301 :: v302 :: v303 :: v304 :: v305 :: v306 :: v307 :: v308 :: v309 :: v310 :: v311 :: v312 :: v313 :: v314 :: v315 :: v316 :: v317 :: v318 :: v319 :: v320 :: v321 :: v322 :: v323 :: v324 :: v325 :: v326 :: v327 :: v328 :: v329 :: v330 :: v331 :: v332 :: v333 :: v334 :: v335 :: v336 :: v337 :: v338 :: v339 :: v340 :: v341 :: v342 :: v343 :: v344 :: v345 :: v346 :: v347 :: v348 :: v349 :: v350 :: v351 :: v352 :: v353 :: v354 :: v355 :: v356 :: v357 :: v358 :: v359 :: v360 :: v361 :: v362 :: v363 :: v364 :: v365 :: v366 :: v367 :: v368 :: v369 :: v370 :: v371 :: v372 :: v373 :: v374 :: v375 :: v376 :: v377 :: v378 :: v379 :: v380 :: v381 :: v382 :: v383 :: v384 :: v385 :: v386 :: v387 :: v388 :: v389 :: v390 :: v391 :: v392 :: v393 :: v394 :: v395 :: v396 :: v397 :: v398 :: v399 :: v400 :: v401 :: v402 :: v403 :: v404 :: v405 :: v406 :: v407 :: v408 :: v409 :: v410 :: v411 :: v412 :: v413 :: v414 :: v415 :: v416 :: v417 :: v418 :: v419 :: v420 :: v421 :: v422 :: v423 :: v424 :: v425 :: v426 :: v427 :: v428 :: v429 :: v430 :: v431 :: v432 :: v433 :: v434 :: v435 :: v436 :: v437 :: v438 :: v439 :: v440 :: v441 :: v442 :: v443 :: v444 :: v445 :: v446 :: v447 :: v448 :: v449 :: v450 :: v451 :: v452 :: v453 :: v454 :: v455 :: v456 :: v457 :: v458 :: v459 :: v460 :: v461 :: v462 :: v463 :: v464 :: v465 :: v466 :: v467 :: v468 :: v469 :: v470 :: v471 :: v472 :: v473 :: v474 :: v475 :: v476 :: v477 :: v478 :: v479 :: v480 :: v481 :: v482 :: v483 :: v484 :: v485 :: v486 :: v487 :: v488 :: v489 :: v490 :: v491 :: v492 :: v493 :: v494 :: v495 :: v496 :: v497 :: v498 :: v499 :: v500 :: v501 :: v502 :: v503 :: v504 :: v505 :: v506 :: v507 :: v508 :: v509 :: v510 :: v511 :: v512 :: v513 :: v514 :: v515 :: v516 :: v517 :: v518 :: v519 :: v520 :: v521 :: v522 :: v523 :: v524 :: v525 :: v526 :: v527 :: v528 :: v529 :: v530 :: v531 :: v532 :: v533 :: v534 :: v535 :: v536 :: v537 :: v538 :: v539 :: v540 :: v541 :: v542 :: v543 :: v544 :: v545 :: v546 :: v547 :: v548 :: v549 :: v550 :: v551 :: v552 :: v553 :: v554 :: v555 :: v556 :: v557 :: v558 :: v559 :: v560 :: v561 :: v562 :: v563 :: v564 :: v565 :: v566 :: v567 :: v568 :: v569 :: v570 :: v571 :: v572 :: v573 :: v574 :: v575 :: v576 :: v577 :: v578 :: v579 :: v580 :: v581 :: v582 :: v583 :: v584 :: v585 :: v586 :: v587 :: v588 :: v589 :: v590 :: v591 :: v592 :: v593 :: v594 :: v595 :: v596 :: []), []⟩ w := by
  have HB := Aside0.mk hB
  have HQ0 := Aside0.mk hq
  clear hB hq
  conv => arg 2; whnf
  go_upto_region 57 with (fail)
  obtain ⟨wC, rfl⟩ : ∃ wC, wC = w := ⟨_, rfl⟩
  have HA0 := Aside0.mk (Below.refl wC.heap.size wC)
  go_cut [549] from 597 (fun v549 wc => v549 = .bool false ∧ Aside0 (Below wC.heap.size wC wc))
  case first =>
    clear HB HQ0
    clear KF
    clear HM6 HM5 HE5 HM3
    go_wp2_with fail
    refine (HE2.out _ _ _ _ _ KDe KD.out KEe KE.out ).mono ?_
    rintro e_ w1_ ⟨rfl, hb⟩
    have n_ := Aside0.mk (Kd.C_below KR.out hb)
    clear KR
    have KR := n_
    clear n_
    have n_ := Aside0.mk (Kd.C_below KA.out hb)
    clear KA
    have KA := n_
    clear n_
    have n_ := Aside0.mk (Kd.C_below KD.out hb)
    clear KD
    have KD := n_
    clear n_
    have n_ := Aside0.mk (Kd.C_below KE.out hb)
    clear KE
    have KE := n_
    clear n_
    have n_ := Aside0.mk (Kd.C_below KB.out hb)
    clear KB
    have KB := n_
    clear n_
    have n_ := Aside0.mk (Kd.C_below KL.out hb)
    clear KL
    have KL := n_
    clear n_
    have n_ := Aside0.mk (Kd.C_below KM.out hb)
    clear KM
    have KM := n_
    clear n_
    have n_ := Aside0.mk (Kd.C_below KS.out hb)
    clear KS
    have KS := n_
    clear n_
    have n_ := Aside0.mk (below_step HA0.out hb)
    clear HA0
    have HA0 := n_
    clear n_
    have n_ := Aside0.mk (TabsE.below HT.out hb)
    clear HT
    have HT := n_
    clear n_
    clear hb
    clear KD
    clear KE
    go_wp2_with fail
    refine (HE3.out _ _ _ _ _ KAe KA.out KBe KB.out ).mono ?_
    rintro e_ w2_ ⟨rfl, hb⟩
    have n_ := Aside0.mk (Kd.C_below KR.out hb)
    clear KR
    have KR := n_
    clear n_
    have n_ := Aside0.mk (Kd.C_below KA.out hb)
    clear KA
    have KA := n_
    clear n_
    have n_ := Aside0.mk (Kd.C_below KB.out hb)
    clear KB
    have KB := n_
    clear n_
    have n_ := Aside0.mk (Kd.C_below KL.out hb)
    clear KL
    have KL := n_
    clear n_
    have n_ := Aside0.mk (Kd.C_below KM.out hb)
    clear KM
    have KM := n_
    clear n_
    have n_ := Aside0.mk (Kd.C_below KS.out hb)
    clear KS
    have KS := n_
    clear n_
    have n_ := Aside0.mk (below_step HA0.out hb)
    clear HA0
    have HA0 := n_
    clear n_
    have n_ := Aside0.mk (TabsE.below HT.out hb)
    clear HT
    have HT := n_
    clear n_
    clear hb
    clear KA
    clear KB
    go_wp2_with fail
    refine (HE4.out _ _ _ _ _ KLe KL.out KMe KM.out ).mono ?_
    rintro e_ w3_ ⟨rfl, hb⟩
    have n_ := Aside0.mk (Kd.C_below KR.out hb)
    clear KR
    have KR := n_
    clear n_
    have n_ := Aside0.mk (Kd.C_below KL.out hb)
    clear KL
    have KL := n_
    clear n_
    have n_ := Aside0.mk (Kd.C_below KM.out hb)
    clear KM
    have KM := n_
    clear n_
    have n_ := Aside0.mk (Kd.C_below KS.out hb)
    clear KS
    have KS := n_
    clear n_
    have n_ := Aside0.mk (below_step HA0.out hb)
    clear HA0
    have HA0 := n_
    clear n_
    have n_ := Aside0.mk (TabsE.below HT.out hb)
    clear HT
    have HT := n_
    clear n_
    clear hb
    clear KL
    clear KM
    go_wp2_with fail
    refine (HE6.out _ _ _ _ _ KRe KR.out KSe KS.out ).mono ?_
    rintro e_ w4_ ⟨rfl, hb⟩
    have n_ := Aside0.mk (Kd.C_below KR.out hb)
    clear KR
    have KR := n_
    clear n_
    have n_ := Aside0.mk (Kd.C_below KS.out hb)
    clear KS
    have KS := n_
    clear n_
    have n_ := Aside0.mk (below_step HA0.out hb)
    clear HA0
    have HA0 := n_
    clear n_
    have n_ := Aside0.mk (TabsE.below HT.out hb)
    clear HT
    have HT := n_
    clear n_
    clear hb
    clear KR
    clear KS
    clear HE2 HE3 HE4 HE6
    go_wp2
    go_meet
    case rel => exact ⟨rfl, HA0⟩
  case rest =>
    obtain ⟨rfl, hb_⟩ := hcut
    have hb := hb_.out
    clear hb_ HA0
    clear KD
    clear KE
    clear KB
    clear KL
    clear KM
    clear KS
    clear HE2 HE3 HE4 HE6
    have n_ := Aside0.mk (Kd.C_below KR.out hb)
    clear KR
    have KR := n_
    clear n_
    have n_ := Aside0.mk (Kd.C_below KF.out hb)
    clear KF
    have KF := n_
    clear n_
    have n_ := Aside0.mk (Kd.C_below KA.out hb)
    clear KA
    have KA := n_
    clear n_
    have n_ := Aside0.mk (below_step HB.out hb)
    clear HB
    have HB := n_
    clear n_
    have n_ := Aside0.mk (TabsE.below HT.out hb)
    clear HT
    have HT := n_
    clear n_
    clear hb
    go_upto_if 549 with fail
    obtain ⟨wD, rfl⟩ : ∃ wD, wD = wc := ⟨_, rfl⟩
    have HA0 := Aside0.mk (Below.refl wD.heap.size wD)
    go_cut [] from 597 (fun wc => Aside0 (Below wD.heap.size wD wc))
    case first => go_wp2; go_meet; case rel => exact HA0
    case rest =>
      have hb := hcut.out
      clear hcut HA0
      have n_ := Aside0.mk (Kd.C_below KR.out hb)
      clear KR
      have KR := n_
      clear n_
      have n_ := Aside0.mk (Kd.C_below KF.out hb)
      clear KF
      have KF := n_
      clear n_
      have n_ := Aside0.mk (Kd.C_below KA.out hb)
      clear KA
      have KA := n_
      clear n_
      have n_ := Aside0.mk (below_step HB.out hb)
      clear HB
      have HB := n_
      clear n_
      have n_ := Aside0.mk (TabsE.below HT.out hb)
      clear HT
      have HT := n_
      clear n_
      clear hb
      go_step
      exact mk_570 HQ0.out HB.out HT HM3 KAe KA HM5 HE5 KFe KF HM6 KRe KR
set_option maxHeartbeats 60000000 in
set_option maxRecDepth 100000 in
theorem mk_calls {more : List Int} {nmo c1 : Nat} {A1 : Option Addr} {v0 v2 v3 v4 v5 v6 v7 v8 v9 v10 v11 v12 v13 v14 v15 v16 v17 v18 v19 v20 v21 v22 v23 v24 v25 v26 v27 v28 v29 v30 v31 v32 v33 v34 v35 v36 v37 v38 v39 v40 v41 v42 v43 v44 v45 v46 v47 v48 v49 v50 v51 v52 v53 v54 v55 v56 v57 v58 v59 v60 v61 v62 v63 v64 v65 v66 v67 v68 v69 v70 v71 v72 v73 v74 v75 v76 v77 v78 v79 v80 v81 v82 v83 v84 v85 v86 v87 v88 v89 v90 v91 v92 v93 v94 v95 v96 v97 v98 v99 v100 v101 v102 v103 v104 v105 v106 v107 v108 v109 v110 v111 v112 v113 v114 v115 v116 v117 v118 v119 v120 v121 v122 v123 v124 v125 v126 v127 v128 v129 v130 v131 v132 v133 v134 v135 v136 v137 v138 v139 v140 v141 v142 v143 v144 v145 v146 v147 v148 v149 v150 v151 v152 v153 v154 v155 v156 v157 v158 v159 v160 v161 v162 v163 v164 v165 v166 v167 v168 v169 v170 v171 v172 v173 v174 v175 v176 v177 v178 v179 v180 v181 v182 v183 v184 v185 v186 v187 v188 v189 v190 v191 v192 v193 v194 v195 v196 v197 v198 v199 v200 v201 v202 v203 v204 v205 v206 v207 v208 v209 v210 v211 v212 v213 v214 v215 v216 v217 v218 v219 v220 v221 v222 v223 v224 v225 v226 v227 v228 v229 v230 v231 v232 v233 v234 v235 v236 v237 v238 v239 v240 v241 v242 v243 v244 v245 v246 v247 v248 v249 v250 v251 v252 v253 v254 v255 v256 v257 v258 v259 v260 v261 v262 v263 v264 v265 v266 v267 v268 v269 v270 v271 v272 v273 v274 v275 v276 v277 v278 v279 v280 v281 v282 v283 v284 v285 v286 v287 v288 v289 v290 v291 v292 v293 v294 v295 v296 v297 v298 v299 v300 v301 v302 v303 v304 v305 v306 v307 v308 v309 v310 v311 v312 v313 v314 v315 v316 v317 v318 v319 v320 v321 v322 v323 v324 v325 v326 v327 v328 v329 v330 v331 v332 v333 v334 v335 v336 v337 v338 v339 v340 v341 v342 v343 v344 v345 v346 v347 v348 v349 v350 v351 v352 v353 v354 v355 v356 v357 v358 v359 v360 v361 v362 v363 v364 v365 v366 v367 v368 v369 v370 v371 v372 v373 v374 v375 v376 v377 v378 v379 v380 v381 v382 v383 v384 v385 v386 v387 v388 v389 v390 v391 v392 v393 v394 v395 v396 v397 v398 v399 v400 v401 v402 v403 v404 v405 v406 v407 v408 v409 v410 v411 v412 v413 v414 v415 v416 v417 v418 v419 v420 v421 v422 v423 v424 v425 v426 v427 v428 v429 v430 v431 v432 v433 v434 v435 v436 v437 v438 v439 v440 v441 v442 v443 v444 v445 v446 v447 v448 v449 v450 v451 v452 v453 v454 v455 v456 v457 v458 v459 v460 v461 v462 v463 v464 v465 v466 v467 v468 v469 v470 v471 v472 v473 v474 v475 v476 v477 v478 v479 v480 v481 v482 v483 v484 v485 v486 v487 v488 v489 v490 v491 v492 v493 v494 v495 v496 v497 v498 v499 v500 v501 v502 v503 v504 v505 v506 v507 v508 v509 v510 v511 v512 v513 v514 v515 v516 v517 v518 v519 v520 v521 v522 v523 v524 v525 v526 v527 v528 v529 v530 v531 v532 v533 v534 v535 v536 v537 v538 v539 v540 v541 v542 v543 v544 v545 v546 v547 v548 v549 v550 v551 v552 v553 v554 v555 v556 v557 v558 v559 v560 v561 v562 v563 v564 v565 v566 v567 v568 v569 v570 v571 v572 v573 v574 v575 v576 v577 v578 v579 v580 v581 v582 v583 v584 v585 v586 v587 v588 v589 v590 v591 v592 v593 v594 v595 v596 : Value} {Q : Exit → Act → World → Prop} {w0 w : World} (hq : ∀ (tm : Array Value) w', tm.getD 4 undef = .bool true → Below w0.heap.size w0 w' → Q .ret ⟨tm, []⟩ w') (hB : Below w0.heap.size w0 w) (HT : Aside0 (TabsE w)) (HALL : Aside0 MAll) (HDM : Aside0 (MDr3 27 more nmo)) (HDA : Aside0 (MDr3 30 more nmo)) (HDD : Aside0 (MDr3 32 more nmo)) (HDT : Aside0 (MDr1 34 more nmo)) (HDP : Aside0 (MDrS 37 more nmo)) (K1e : nmo ≤ c1) (K1 : Aside0 (Kd.C (Kd.int .u8) w A1 nmo more)) :
    Code.wp Tryz.prog (mkDrop_ 13 mkBody) Q ⟨List.toArray (v0 :: .slice A1 nmo c1 :: v2 :: v3 :: v4 :: v5 :: v6 :: v7 :: v8 :: v9 :: v10 :: v11 :: v12 :: v13 :: v14 :: v15 :: v16 :: v17 :: v18 :: v19 :: v20 :: v21 :: v22 :: v23 :: v24 :: v25 :: v26 :: v27 :: v28 :: v29 :: v30 :: v31 :: v32 :: v33 :: v34 :: v35 :: v36 :: v37 :: v38 :: v39 :: v40 :: v41 :: v42 :: v43 :: v44 :: v45 :: v46 :: v47 :: v48 :: v49 :: v50 :: v51 :: v52 :: v53 :: v54 :: v55 :: v56 :: v57 :: v58 :: v59 :: v60 :: v61 :: v62 :: v63 :: v64 :: v65 :: v66 :: v67 :: v68 :: v69 :: v70 :: v71 :: v72 :: v73 :: v74 :: v75 :: v76 :: v77 :: v78 :: v79 :: v80 :: v81 :: v82 :: v83 :: v84 :: v85 :: v86 :: v87 :: v88 :: v89 :: v90 :: v91 :: v92 :: v93 :: v94 :: v95 :: v96 :: v97 :: v98 :: v99 :: v100 :: v101 :: v102 :: v103 :: v104 :: v105 :: v106 :: v107 :: v108 :: v109 :: v110 :: v111 :: v112 :: v113 :: v114 :: v115 :: v116 :: v117 :: v118 :: v119 :: v120 :: v121 :: v122 :: v123 :: v124 :: v125 :: v126 :: v127 :: v128 :: v129 :: v130 :: v131 :: v132 :: v133 :: v134 :: v135 :: v136 :: v137 :: v138 :: v139 :: v140 :: v141 :: v142 :: v143 :: v144 :: v145 :: v146 :: v147 :: v148 :: v149 :: v150 :: v151 :: v152 :: v153 :: v154 :: v155 :: v156 :: v157 :: v158 :: v159 :: v160 :: v161 :: v162 :: v163 :: v164 :: v165 :: v166 :: v167 :: v168 :: v169 :: v170 :: v171 :: v172 :: v173 :: v174 :: v175 :: v176 :: v177 :: v178 :: v179 :: v180 :: v181 :: v182 :: v183 :: v184 :: v185 :: v186 :: v187 :: v188 :: v189 :: v190 :: v191 :: v192 :: v193 :: v194 :: v195 :: v196 :: v197 :: v198 :: v199 :: v200 :: v201 :: v202 :: v203 :: v204 :: v205 :: v206 :: v207 :: v208 :: v209 :: v210 :: v211 :: v212 :: v213 :: v214 :: v215 :: v216 :: v217 :: v218 :: v219 :: v220 :: v221 :: v222 :: v223 :: v224 :: v225 :: v226 :: v227 :: v228 :: v229 :: v230 :: v231 :: v232 :: v233 :: v234 :: v235 :: v236 :: v237 :: v238 :: v239 :: v240 :: v241 :: v242 :: v243 :: v244 :: v245 :: v246 :: v247 :: v248 :: v249 :: v250 :: v251 :: v252 :: v253 :: v254 :: v255 :: v256 :: v257 :: v258 :: v259 :: v260 :: v261 :: v262 :: v263 :: v264 :: v265 :: v266 :: v267 :: v268 :: v269 :: v270 :: v271 :: v272 :: v273 :: v274 :: v275 :: v276 :: v277 :: v278 :: v279 :: v280 :: v281 :: v282 :: v283 :: v284 :: v285 :: v286 :: v287 :: v288 :: v289 :: v290 :: v291 :: v292 :: v293 :: v294 :: v295 :: v296 :: v297 :: v298 :: v299 :: v300 :: v301 :: v302 :: v303 :: v304 :: v305 :: v306 :: v307 :: v308 :: v309 :: v310 :: v311 :: v312 :: v313 :: v314 :: v315 :: v316 :: v317 :: v318 :: v319 :: v320 :: v321 :: v322 :: v323 :: v324 :: v325 :: v326 :: v327 :: v328 :: v329 :: v330 :: v331 :: v332 :: v333 :: v334 :: v335 :: v336 :: v337 :: v338 :: v339 :: v340 :: v341 :: v342 :: v343 :: v344 :: v345 :: v346 :: v347 :: v348 :: v349 :: v350 :: v351 :: v352 :: v353 :: v354 :: v355 :: v356 :: v357 :: v358 :: v359 :: v360 :: v361 :: v362 :: v363 :: v364 :: v365 :: v366 :: v367 :: v368 :: v369 :: v370 :: v371 :: v372 :: v373 :: v374 :: v375 :: v376 :: v377 :: v378 :: v379 :: v380 :: v381 :: v382 :: v383 :: v384 :: v385 :: v386 :: v387 :: v388 :: v389 :: v390 :: v391 :: v392 :: v393 :: v394 :: v395 :: v396 :: v397 :: v398 :: v399 :: v400 :: v401 :: v402 :: v403 :: v404 :: v405 :: v406 :: v407 :: v408 :: v409 :: v410 :: v411 :: v412 :: v413 :: v414 :: v415 :: v416 :: v417 :: v418 :: v419 :: v420 :: v421 :: v422 :: v423 :: v424 :: v425 :: v426 :: v427 :: v428 :: v429 :: v430 :: v431 :: v432 :: v433 :: v434 :: v435 :: v436 :: v437 :: v438 :: v439 :: v440 :: v441 :: v442 :: v443 :: v444 :: v445 :: v446 :: v447 :: v448 :: v449 :: v450 :: v451 :: v452 :: v453 :: v454 :: v455 :: v456 :: v457 :: v458 :: v459 :: v460 :: v461 :: v462 :: v463 :: v464 :: v465 :: v466 :: v467 :: v468 :: v469 :: v470 :: v471 :: v472 :: v473 :: v474 :: v475 :: v476 :: v477 :: v478 :: v479 :: v480 :: v481 :: v482 :: v483 :: v484 :: v485 :: v486 :: v487 :: v488 :: v489 :: v490 :: v491 :: v492 :: v493 :: v494 :: v495 :: v496 :: v497 :: v498 :: v499 :: v500 :: v501 :: v502 :: v503 :: v504 :: v505 :: v506 :: v507 :: v508 :: v509 :: v510 :: v511 :: v512 :: v513 :: v514 :: v515 :: v516 :: v517 :: v518 :: v519 :: v520 :: v521 :: v522 :: v523 :: v524 :: v525 :: v526 :: v527 :: v528 :: v529 :: v530 :: v531 :: v532 :: v533 :: v534 :: v535 :: v536 :: v537 :: v538 :: v539 :: v540 :: v541 :: v542 :: v543 :: v544 :: v545 :: v546 :: v547 :: v548 :: v549 :: v550 :: v551 :: v552 :: v553 :: v554 :: v555 :: v556 :: v557 :: v558 :: v559 :: v560 :: v561 :: v562 :: v563 :: v564 :: v565 :: v566 :: v567 :: v568 :: v569 :: v570 :: v571 :: v572 :: v573 :: v574 :: v575 :: v576 :: v577 :: v578 :: v579 :: v580 :: v581 :: v582 :: v583 :: v584 :: v585 :: v586 :: v587 :: v588 :: v589 :: v590 :: v591 :: v592 :: v593 :: v594 :: v595 :: v596 :: []), []⟩ w := by
  have HB := Aside0.mk hB
  have HQ0 := Aside0.mk hq
  clear hB hq
  conv => arg 2; whnf
  go_wp2_with fail
  refine (HDM.out _ _ _ K1e K1.out ).mono ?_
  rintro e_ w1_ ⟨f2, m2, n2, p2, A_, c_, rfl, KXe, hl_, hn_, hf_, hp_, hc_, hb⟩
  have n_ := Aside0.mk (Kd.C_below K1.out hb)
  clear K1
  have K1 := n_
  clear n_
  have n_ := Aside0.mk (below_step HB.out hb)
  clear HB
  have HB := n_
  clear n_
  have n_ := Aside0.mk (TabsE.below HT.out hb)
  clear HT
  have HT := n_
  clear n_
  clear hb
  have KX := Aside0.mk hc_
  clear hc_
  obtain ⟨dr, nd, t2, ok2, S1_⟩ := HALL.out.s1 f2 m2 n2 p2 hl_ hn_ hf_ hp_
  have S1 := Aside0.mk S1_
  clear S1_ hl_ hn_ hf_ hp_ HDM
  go_wp2_with fail
  refine (S1.out.d1 _ _ _ KXe KX.out ).mono ?_
  rintro e_ w2_ ⟨AKD_, cKD_, rfl, KDe, hKD_, hb⟩
  have KD_ := Aside0.mk hKD_
  clear hKD_
  have n_ := Aside0.mk (Kd.C_below K1.out hb)
  clear K1
  have K1 := n_
  clear n_
  have n_ := Aside0.mk (Kd.C_below KX.out hb)
  clear KX
  have KX := n_
  clear n_
  have n_ := Aside0.mk (below_step HB.out hb)
  clear HB
  have HB := n_
  clear n_
  have n_ := Aside0.mk (TabsE.below HT.out hb)
  clear HT
  have HT := n_
  clear n_
  clear hb
  have KD := KD_
  clear KD_
  go_wp2_with fail
  refine (S1.out.d2 _ _ _ KXe KX.out ).mono ?_
  rintro e_ w3_ ⟨AKE_, cKE_, rfl, KEe, hKE_, hb⟩
  have KE_ := Aside0.mk hKE_
  clear hKE_
  have n_ := Aside0.mk (Kd.C_below K1.out hb)
  clear K1
  have K1 := n_
  clear n_
  have n_ := Aside0.mk (Kd.C_below KX.out hb)
  clear KX
  have KX := n_
  clear n_
  have n_ := Aside0.mk (Kd.C_below KD.out hb)
  clear KD
  have KD := n_
  clear n_
  have n_ := Aside0.mk (below_step HB.out hb)
  clear HB
  have HB := n_
  clear n_
  have n_ := Aside0.mk (TabsE.below HT.out hb)
  clear HT
  have HT := n_
  clear n_
  clear hb
  have KE := KE_
  clear KE_
  go_wp2_with fail
  refine (S1.out.t1 _ _ _ KXe KX.out ).mono ?_
  rintro e_ w4_ ⟨rfl, hb⟩
  have n_ := Aside0.mk (Kd.C_below K1.out hb)
  clear K1
  have K1 := n_
  clear n_
  have n_ := Aside0.mk (Kd.C_below KX.out hb)
  clear KX
  have KX := n_
  clear n_
  have n_ := Aside0.mk (Kd.C_below KD.out hb)
  clear KD
  have KD := n_
  clear n_
  have n_ := Aside0.mk (Kd.C_below KE.out hb)
  clear KE
  have KE := n_
  clear n_
  have n_ := Aside0.mk (below_step HB.out hb)
  clear HB
  have HB := n_
  clear n_
  have n_ := Aside0.mk (TabsE.below HT.out hb)
  clear HT
  have HT := n_
  clear n_
  clear hb
  go_wp2_with fail
  refine (S1.out.t2 _ _ _ KXe KX.out ).mono ?_
  rintro e_ w5_ ⟨rfl, hb⟩
  have n_ := Aside0.mk (Kd.C_below K1.out hb)
  clear K1
  have K1 := n_
  clear n_
  have n_ := Aside0.mk (Kd.C_below KX.out hb)
  clear KX
  have KX := n_
  clear n_
  have n_ := Aside0.mk (Kd.C_below KD.out hb)
  clear KD
  have KD := n_
  clear n_
  have n_ := Aside0.mk (Kd.C_below KE.out hb)
  clear KE
  have KE := n_
  clear n_
  have n_ := Aside0.mk (below_step HB.out hb)
  clear HB
  have HB := n_
  clear n_
  have n_ := Aside0.mk (TabsE.below HT.out hb)
  clear HT
  have HT := n_
  clear n_
  clear hb
  clear KX
  have HE2 := Aside0.mk S1.out.e
  clear S1
  go_wp2_with fail
  refine (HDA.out _ _ _ K1e K1.out ).mono ?_
  rintro e_ w6_ ⟨f3, m3, n3, p3, A_, c_, rfl, KXe, hl_, hn_, hf_, hp_, hc_, hb⟩
  have n_ := Aside0.mk (Kd.C_below K1.out hb)
  clear K1
  have K1 := n_
  clear n_
  have n_ := Aside0.mk (Kd.C_below KD.out hb)
  clear KD
  have KD := n_
  clear n_
  have n_ := Aside0.mk (Kd.C_below KE.out hb)
  clear KE
  have KE := n_
  clear n_
  have n_ := Aside0.mk (below_step HB.out hb)
  clear HB
  have HB := n_
  clear n_
  have n_ := Aside0.mk (TabsE.below HT.out hb)
  clear HT
  have HT := n_
  clear n_
  clear hb
  have KX := Aside0.mk hc_
  clear hc_
  obtain ⟨ad, na, ok3, S2_⟩ := HALL.out.s2 f3 m3 n3 p3 hl_ hn_ hf_ hp_
  have S2 := Aside0.mk S2_
  clear S2_ hl_ hn_ hf_ hp_ HDA
  go_wp2_with fail
  refine (S2.out.d1 _ _ _ KXe KX.out ).mono ?_
  rintro e_ w7_ ⟨AKA_, cKA_, rfl, KAe, hKA_, hb⟩
  have KA_ := Aside0.mk hKA_
  clear hKA_
  have n_ := Aside0.mk (Kd.C_below K1.out hb)
  clear K1
  have K1 := n_
  clear n_
  have n_ := Aside0.mk (Kd.C_below KD.out hb)
  clear KD
  have KD := n_
  clear n_
  have n_ := Aside0.mk (Kd.C_below KE.out hb)
  clear KE
  have KE := n_
  clear n_
  have n_ := Aside0.mk (Kd.C_below KX.out hb)
  clear KX
  have KX := n_
  clear n_
  have n_ := Aside0.mk (below_step HB.out hb)
  clear HB
  have HB := n_
  clear n_
  have n_ := Aside0.mk (TabsE.below HT.out hb)
  clear HT
  have HT := n_
  clear n_
  clear hb
  have KA := KA_
  clear KA_
  go_wp2_with fail
  refine (S2.out.d2 _ _ _ KXe KX.out ).mono ?_
  rintro e_ w8_ ⟨AKB_, cKB_, rfl, KBe, hKB_, hb⟩
  have KB_ := Aside0.mk hKB_
  clear hKB_
  have n_ := Aside0.mk (Kd.C_below K1.out hb)
  clear K1
  have K1 := n_
  clear n_
  have n_ := Aside0.mk (Kd.C_below KD.out hb)
  clear KD
  have KD := n_
  clear n_
  have n_ := Aside0.mk (Kd.C_below KE.out hb)
  clear KE
  have KE := n_
  clear n_
  have n_ := Aside0.mk (Kd.C_below KX.out hb)
  clear KX
  have KX := n_
  clear n_
  have n_ := Aside0.mk (Kd.C_below KA.out hb)
  clear KA
  have KA := n_
  clear n_
  have n_ := Aside0.mk (below_step HB.out hb)
  clear HB
  have HB := n_
  clear n_
  have n_ := Aside0.mk (TabsE.below HT.out hb)
  clear HT
  have HT := n_
  clear n_
  clear hb
  have KB := KB_
  clear KB_
  clear KX
  have HE3 := Aside0.mk S2.out.e
  have HM3 := Aside0.mk S2.out.y
  clear S2
  go_wp2_with fail
  refine (HDD.out _ _ _ K1e K1.out ).mono ?_
  rintro e_ w9_ ⟨f4, m4, n4, p4, A_, c_, rfl, KXe, hl_, hn_, hf_, hp_, hc_, hb⟩
  have n_ := Aside0.mk (Kd.C_below K1.out hb)
  clear K1
  have K1 := n_
  clear n_
  have n_ := Aside0.mk (Kd.C_below KD.out hb)
  clear KD
  have KD := n_
  clear n_
  have n_ := Aside0.mk (Kd.C_below KE.out hb)
  clear KE
  have KE := n_
  clear n_
  have n_ := Aside0.mk (Kd.C_below KA.out hb)
  clear KA
  have KA := n_
  clear n_
  have n_ := Aside0.mk (Kd.C_below KB.out hb)
  clear KB
  have KB := n_
  clear n_
  have n_ := Aside0.mk (below_step HB.out hb)
  clear HB
  have HB := n_
  clear n_
  have n_ := Aside0.mk (TabsE.below HT.out hb)
  clear HT
  have HT := n_
  clear n_
  clear hb
  have KX := Aside0.mk hc_
  clear hc_
  obtain ⟨dp, n4_, ok4, S3_⟩ := HALL.out.s3 f4 m4 n4 p4 hl_ hn_ hf_ hp_
  have S3 := Aside0.mk S3_
  clear S3_ hl_ hn_ hf_ hp_ HDD
  go_wp2_with fail
  refine (S3.out.d1 _ _ _ KXe KX.out ).mono ?_
  rintro e_ w10_ ⟨AKL_, cKL_, rfl, KLe, hKL_, hb⟩
  have KL_ := Aside0.mk hKL_
  clear hKL_
  have n_ := Aside0.mk (Kd.C_below K1.out hb)
  clear K1
  have K1 := n_
  clear n_
  have n_ := Aside0.mk (Kd.C_below KD.out hb)
  clear KD
  have KD := n_
  clear n_
  have n_ := Aside0.mk (Kd.C_below KE.out hb)
  clear KE
  have KE := n_
  clear n_
  have n_ := Aside0.mk (Kd.C_below KA.out hb)
  clear KA
  have KA := n_
  clear n_
  have n_ := Aside0.mk (Kd.C_below KB.out hb)
  clear KB
  have KB := n_
  clear n_
  have n_ := Aside0.mk (Kd.C_below KX.out hb)
  clear KX
  have KX := n_
  clear n_
  have n_ := Aside0.mk (below_step HB.out hb)
  clear HB
  have HB := n_
  clear n_
  have n_ := Aside0.mk (TabsE.below HT.out hb)
  clear HT
  have HT := n_
  clear n_
  clear hb
  have KL := KL_
  clear KL_
  go_wp2_with fail
  refine (S3.out.d2 _ _ _ KXe KX.out ).mono ?_
  rintro e_ w11_ ⟨AKM_, cKM_, rfl, KMe, hKM_, hb⟩
  have KM_ := Aside0.mk hKM_
  clear hKM_
  have n_ := Aside0.mk (Kd.C_below K1.out hb)
  clear K1
  have K1 := n_
  clear n_
  have n_ := Aside0.mk (Kd.C_below KD.out hb)
  clear KD
  have KD := n_
  clear n_
  have n_ := Aside0.mk (Kd.C_below KE.out hb)
  clear KE
  have KE := n_
  clear n_
  have n_ := Aside0.mk (Kd.C_below KA.out hb)
  clear KA
  have KA := n_
  clear n_
  have n_ := Aside0.mk (Kd.C_below KB.out hb)
  clear KB
  have KB := n_
  clear n_
  have n_ := Aside0.mk (Kd.C_below KX.out hb)
  clear KX
  have KX := n_
  clear n_
  have n_ := Aside0.mk (Kd.C_below KL.out hb)
  clear KL
  have KL := n_
  clear n_
  have n_ := Aside0.mk (below_step HB.out hb)
  clear HB
  have HB := n_
  clear n_
  have n_ := Aside0.mk (TabsE.below HT.out hb)
  clear HT
  have HT := n_
  clear n_
  clear hb
  have KM := KM_
  clear KM_
  clear KX
  have HE4 := Aside0.mk S3.out.e
  clear S3
  go_wp2_with fail
  refine (HDT.out _ _ _ K1e K1.out ).mono ?_
  rintro e_ w12_ ⟨m5, n5, A_, c_, rfl, KFe, hl_, hn_, hc_, hb⟩
  have n_ := Aside0.mk (Kd.C_below K1.out hb)
  clear K1
  have K1 := n_
  clear n_
  have n_ := Aside0.mk (Kd.C_below KD.out hb)
  clear KD
  have KD := n_
  clear n_
  have n_ := Aside0.mk (Kd.C_below KE.out hb)
  clear KE
  have KE := n_
  clear n_
  have n_ := Aside0.mk (Kd.C_below KA.out hb)
  clear KA
  have KA := n_
  clear n_
  have n_ := Aside0.mk (Kd.C_below KB.out hb)
  clear KB
  have KB := n_
  clear n_
  have n_ := Aside0.mk (Kd.C_below KL.out hb)
  clear KL
  have KL := n_
  clear n_
  have n_ := Aside0.mk (Kd.C_below KM.out hb)
  clear KM
  have KM := n_
  clear n_
  have n_ := Aside0.mk (below_step HB.out hb)
  clear HB
  have HB := n_
  clear n_
  have n_ := Aside0.mk (TabsE.below HT.out hb)
  clear HT
  have HT := n_
  clear n_
  clear hb
  have KF := Aside0.mk hc_
  clear hc_
  obtain ⟨s5, ok5, S4_⟩ := HALL.out.s4 m5 n5 hl_ hn_
  have S4 := Aside0.mk S4_
  clear S4_ hl_ hn_ HDT
  go_wp2_with fail
  refine (S4.out.d1 _ _ _ KFe KF.out HT.out).mono ?_
  rintro e_ w13_ ⟨rfl, hb⟩
  have n_ := Aside0.mk (Kd.C_below K1.out hb)
  clear K1
  have K1 := n_
  clear n_
  have n_ := Aside0.mk (Kd.C_below KD.out hb)
  clear KD
  have KD := n_
  clear n_
  have n_ := Aside0.mk (Kd.C_below KE.out hb)
  clear KE
  have KE := n_
  clear n_
  have n_ := Aside0.mk (Kd.C_below KA.out hb)
  clear KA
  have KA := n_
  clear n_
  have n_ := Aside0.mk (Kd.C_below KB.out hb)
  clear KB
  have KB := n_
  clear n_
  have n_ := Aside0.mk (Kd.C_below KL.out hb)
  clear KL
  have KL := n_
  clear n_
  have n_ := Aside0.mk (Kd.C_below KM.out hb)
  clear KM
  have KM := n_
  clear n_
  have n_ := Aside0.mk (Kd.C_below KF.out hb)
  clear KF
  have KF := n_
  clear n_
  have n_ := Aside0.mk (below_step HB.out hb)
  clear HB
  have HB := n_
  clear n_
  have n_ := Aside0.mk (TabsE.below HT.out hb)
  clear HT
  have HT := n_
  clear n_
  clear hb
  go_wp2_with fail
  refine (S4.out.d2 _ _ _ KFe KF.out HT.out).mono ?_
  rintro e_ w14_ ⟨rfl, hb⟩
  have n_ := Aside0.mk (Kd.C_below K1.out hb)
  clear K1
  have K1 := n_
  clear n_
  have n_ := Aside0.mk (Kd.C_below KD.out hb)
  clear KD
  have KD := n_
  clear n_
  have n_ := Aside0.mk (Kd.C_below KE.out hb)
  clear KE
  have KE := n_
  clear n_
  have n_ := Aside0.mk (Kd.C_below KA.out hb)
  clear KA
  have KA := n_
  clear n_
  have n_ := Aside0.mk (Kd.C_below KB.out hb)
  clear KB
  have KB := n_
  clear n_
  have n_ := Aside0.mk (Kd.C_below KL.out hb)
  clear KL
  have KL := n_
  clear n_
  have n_ := Aside0.mk (Kd.C_below KM.out hb)
  clear KM
  have KM := n_
  clear n_
  have n_ := Aside0.mk (Kd.C_below KF.out hb)
  clear KF
  have KF := n_
  clear n_
  have n_ := Aside0.mk (below_step HB.out hb)
  clear HB
  have HB := n_
  clear n_
  have n_ := Aside0.mk (TabsE.below HT.out hb)
  clear HT
  have HT := n_
  clear n_
  clear hb
  have HE5 := Aside0.mk S4.out.e
  have HM5 := Aside0.mk S4.out.y
  clear S4
  go_wp2_with fail
  refine (HDP.out _ _ _ K1e K1.out ).mono ?_
  rintro e_ w15_ ⟨s6, rfl, hs_, hb⟩
  have n_ := Aside0.mk (Kd.C_below K1.out hb)
  clear K1
  have K1 := n_
  clear n_
  have n_ := Aside0.mk (Kd.C_below KD.out hb)
  clear KD
  have KD := n_
  clear n_
  have n_ := Aside0.mk (Kd.C_below KE.out hb)
  clear KE
  have KE := n_
  clear n_
  have n_ := Aside0.mk (Kd.C_below KA.out hb)
  clear KA
  have KA := n_
  clear n_
  have n_ := Aside0.mk (Kd.C_below KB.out hb)
  clear KB
  have KB := n_
  clear n_
  have n_ := Aside0.mk (Kd.C_below KL.out hb)
  clear KL
  have KL := n_
  clear n_
  have n_ := Aside0.mk (Kd.C_below KM.out hb)
  clear KM
  have KM := n_
  clear n_
  have n_ := Aside0.mk (Kd.C_below KF.out hb)
  clear KF
  have KF := n_
  clear n_
  have n_ := Aside0.mk (below_step HB.out hb)
  clear HB
  have HB := n_
  clear n_
  have n_ := Aside0.mk (TabsE.below HT.out hb)
  clear HT
  have HT := n_
  clear n_
  clear hb
  clear K1
  obtain ⟨m6, n6, ok6, S5_⟩ := HALL.out.s5 s6 hs_
  have S5 := Aside0.mk S5_
  clear S5_ hs_ HDP HALL
  go_wp2_with fail
  refine (S5.out.d1 _   HT.out).mono ?_
  rintro e_ w16_ ⟨AKR_, cKR_, rfl, KRe, hKR_, hb⟩
  have KR_ := Aside0.mk hKR_
  clear hKR_
  have n_ := Aside0.mk (Kd.C_below KD.out hb)
  clear KD
  have KD := n_
  clear n_
  have n_ := Aside0.mk (Kd.C_below KE.out hb)
  clear KE
  have KE := n_
  clear n_
  have n_ := Aside0.mk (Kd.C_below KA.out hb)
  clear KA
  have KA := n_
  clear n_
  have n_ := Aside0.mk (Kd.C_below KB.out hb)
  clear KB
  have KB := n_
  clear n_
  have n_ := Aside0.mk (Kd.C_below KL.out hb)
  clear KL
  have KL := n_
  clear n_
  have n_ := Aside0.mk (Kd.C_below KM.out hb)
  clear KM
  have KM := n_
  clear n_
  have n_ := Aside0.mk (Kd.C_below KF.out hb)
  clear KF
  have KF := n_
  clear n_
  have n_ := Aside0.mk (below_step HB.out hb)
  clear HB
  have HB := n_
  clear n_
  have n_ := Aside0.mk (TabsE.below HT.out hb)
  clear HT
  have HT := n_
  clear n_
  clear hb
  have KR := KR_
  clear KR_
  have HE6 := Aside0.mk S5.out.e
  have HM6 := Aside0.mk S5.out.y
  go_upto_region 56 with (fail)
  obtain ⟨wC, rfl⟩ : ∃ wC, wC = w16_ := ⟨_, rfl⟩
  have HA0 := Aside0.mk (Below.refl wC.heap.size wC)
  go_cut [77, 78] from 597 (fun v77 v78 wc => ∃ A77 c77, v77 = .slice A77 n6 c77 ∧ v78 = .bool ok6 ∧ n6 ≤ c77 ∧ Aside0 (Kd.C (Kd.int .i64) wc A77 n6 m6) ∧ Aside0 (Below wC.heap.size wC wc))
  case first =>
    clear HB HQ0 HE2 HE3 HE4 HE5 HE6 HM3 HM5 HM6 KD KE KA KB KL KM KF KR
    go_wp2_with fail
    refine (S5.out.d2 _   HT.out).mono ?_
    rintro e_ w17_ ⟨AKS_, cKS_, rfl, KSe, hKS_, hb⟩
    have KS_ := Aside0.mk hKS_
    clear hKS_
    have n_ := Aside0.mk (below_step HA0.out hb)
    clear HA0
    have HA0 := n_
    clear n_
    have n_ := Aside0.mk (TabsE.below HT.out hb)
    clear HT
    have HT := n_
    clear n_
    clear hb
    have KS := KS_
    clear KS_
    clear S5
    go_wp2
    go_meet
    case rel => exact ⟨_, _, rfl, rfl, KSe, KS, HA0⟩
  case rest =>
    obtain ⟨A77, c77, rfl, rfl, KSe, KS_, hb_⟩ := hcut
    have hb := hb_.out
    clear hb_ HA0 S5
    have n_ := Aside0.mk (Kd.C_below KD.out hb)
    clear KD
    have KD := n_
    clear n_
    have n_ := Aside0.mk (Kd.C_below KE.out hb)
    clear KE
    have KE := n_
    clear n_
    have n_ := Aside0.mk (Kd.C_below KA.out hb)
    clear KA
    have KA := n_
    clear n_
    have n_ := Aside0.mk (Kd.C_below KB.out hb)
    clear KB
    have KB := n_
    clear n_
    have n_ := Aside0.mk (Kd.C_below KL.out hb)
    clear KL
    have KL := n_
    clear n_
    have n_ := Aside0.mk (Kd.C_below KM.out hb)
    clear KM
    have KM := n_
    clear n_
    have n_ := Aside0.mk (Kd.C_below KF.out hb)
    clear KF
    have KF := n_
    clear n_
    have n_ := Aside0.mk (Kd.C_below KR.out hb)
    clear KR
    have KR := n_
    clear n_
    have n_ := Aside0.mk (below_step HB.out hb)
    clear HB
    have HB := n_
    clear n_
    have n_ := Aside0.mk (TabsE.below HT.out hb)
    clear HT
    have HT := n_
    clear n_
    clear hb
    have KS := KS_
    clear KS_
    go_step
    exact mk_549 HQ0.out HB.out HT HE2 HE3 HE4 HE6 KDe KD KEe KE KBe KB KLe KL KMe KM KSe KS HM3 KAe KA HM5 HE5 KFe KF HM6 KRe KR
set_option maxHeartbeats 60000000 in
set_option maxRecDepth 100000 in
theorem mk_210 {more : List Int} {nmo c1 : Nat} {A1 : Option Addr} {f worst sum : Int} {m hard harm : List Int} {n nh ng c6 c7 c19 : Nat} {A6 A7 A19 : Option Addr} {ok : Bool} {v0 v2 v3 v4 v9 v10 v12 v13 v14 v16 v17 v18 v20 v21 v22 v23 v24 v25 v26 v27 v28 v29 v30 v31 v32 v33 v34 v35 v36 v37 v38 v39 v40 v41 v42 v43 v44 v45 v46 v47 v48 v49 v50 v51 v52 v53 v54 v55 v56 v57 v58 v59 v60 v61 v62 v63 v64 v65 v66 v67 v68 v69 v70 v71 v72 v73 v74 v75 v76 v77 v78 v79 v80 v81 v82 v83 v84 v85 v86 v87 v88 v89 v90 v91 v92 v93 v94 v95 v96 v97 v98 v99 v100 v101 v102 v103 v104 v105 v106 v107 v108 v109 v110 v111 v112 v113 v114 v115 v116 v117 v118 v119 v120 v121 v122 v123 v124 v125 v126 v127 v128 v129 v130 v131 v132 v133 v134 v135 v136 v137 v138 v139 v140 v141 v142 v143 v144 v145 v146 v147 v148 v149 v150 v151 v152 v153 v154 v155 v156 v157 v158 v159 v160 v161 v162 v163 v164 v165 v166 v167 v168 v169 v170 v171 v172 v173 v174 v175 v176 v177 v178 v179 v180 v181 v182 v183 v184 v185 v186 v187 v188 v189 v190 v191 v192 v193 v194 v195 v196 v197 v198 v199 v200 v201 v202 v203 v204 v205 v206 v207 v208 v209 v210 v211 v212 v213 v214 v215 v216 v217 v218 v219 v220 v221 v222 v223 v224 v225 v226 v227 v228 v229 v230 v231 v232 v233 v234 v235 v236 v237 v238 v239 v240 v241 v242 v243 v244 v245 v246 v247 v248 v249 v250 v251 v252 v253 v254 v255 v256 v257 v258 v259 v260 v261 v262 v263 v264 v265 v266 v267 v268 v269 v270 v271 v272 v273 v274 v275 v276 v277 v278 v279 v280 v281 v282 v283 v284 v285 v286 v287 v288 v289 v290 v291 v292 v293 v294 v295 v296 v297 v298 v299 v300 v301 v302 v303 v304 v305 v306 v307 v308 v309 v310 v311 v312 v313 v314 v315 v316 v317 v318 v319 v320 v321 v322 v323 v324 v325 v326 v327 v328 v329 v330 v331 v332 v333 v334 v335 v336 v337 v338 v339 v340 v341 v342 v343 v344 v345 v346 v347 v348 v349 v350 v351 v352 v353 v354 v355 v356 v357 v358 v359 v360 v361 v362 v363 v364 v365 v366 v367 v368 v369 v370 v371 v372 v373 v374 v375 v376 v377 v378 v379 v380 v381 v382 v383 v384 v385 v386 v387 v388 v389 v390 v391 v392 v393 v394 v395 v396 v397 v398 v399 v400 v401 v402 v403 v404 v405 v406 v407 v408 v409 v410 v411 v412 v413 v414 v415 v416 v417 v418 v419 v420 v421 v422 v423 v424 v425 v426 v427 v428 v429 v430 v431 v432 v433 v434 v435 v436 v437 v438 v439 v440 v441 v442 v443 v444 v445 v446 v447 v448 v449 v450 v451 v452 v453 v454 v455 v456 v457 v458 v459 v460 v461 v462 v463 v464 v465 v466 v467 v468 v469 v470 v471 v472 v473 v474 v475 v476 v477 v478 v479 v480 v481 v482 v483 v484 v485 v486 v487 v488 v489 v490 v491 v492 v493 v494 v495 v496 v497 v498 v499 v500 v501 v502 v503 v504 v505 v506 v507 v508 v509 v510 v511 v512 v513 v514 v515 v516 v517 v518 v519 v520 v521 v522 v523 v524 v525 v526 v527 v528 v529 v530 v531 v532 v533 v534 v535 v536 v537 v538 v539 v540 v541 v542 v543 v544 v545 v546 v547 v548 v549 v550 v551 v552 v553 v554 v555 v556 v557 v558 v559 v560 v561 v562 v563 v564 v565 v566 v567 v568 v569 v570 v571 v572 v573 v574 v575 v576 v577 v578 v579 v580 v581 v582 v583 v584 v585 v586 v587 v588 v589 v590 v591 v592 v593 v594 v595 v596 : Value} {Q : Exit → Act → World → Prop} {w0 w : World} (hq : ∀ (tm : Array Value) w', tm.getD 4 undef = .bool true → Below w0.heap.size w0 w' → Q .ret ⟨tm, []⟩ w') (hB : Below w0.heap.size w0 w) (HT : Aside0 (TabsE w)) (HP : Aside0 (ok = true → ∃ (fn : Nat), ∃ few ds dl br sm mx ls ll st, f = (fn : Int) ∧ fn ≤ 100 ∧ MP fn m n hard nh worst sum harm ng few ds dl br sm mx ls ll st)) (K6e : n ≤ c6) (K6 : Aside0 (Kd.C (Kd.int .i64) w A6 n m)) (KHe : nh ≤ c7) (KH : Aside0 (Kd.C (Kd.int .i64) w A7 nh hard)) (KGe : ng ≤ c19) (KG : Aside0 (Kd.C (Kd.int .i64) w A19 ng harm)) (hn110 : n ≤ 110) (HALL : Aside0 MAll) (HDM : Aside0 (MDr3 27 more nmo)) (HDA : Aside0 (MDr3 30 more nmo)) (HDD : Aside0 (MDr3 32 more nmo)) (HDT : Aside0 (MDr1 34 more nmo)) (HDP : Aside0 (MDrS 37 more nmo)) (K1e : nmo ≤ c1) (K1 : Aside0 (Kd.C (Kd.int .u8) w A1 nmo more)) :
    Code.wp Tryz.prog (mkDrop_ 12 mkBody) Q ⟨List.toArray (v0 :: .slice A1 nmo c1 :: v2 :: v3 :: v4 :: .int .i64 f :: .slice A6 n c6 :: .slice A7 nh c7 :: .bool ok :: v9 :: v10 :: .int .i64 worst :: v12 :: v13 :: v14 :: .int .i64 sum :: v16 :: v17 :: v18 :: .slice A19 ng c19 :: v20 :: v21 :: v22 :: v23 :: v24 :: v25 :: v26 :: v27 :: v28 :: v29 :: v30 :: v31 :: v32 :: v33 :: v34 :: v35 :: v36 :: v37 :: v38 :: v39 :: v40 :: v41 :: v42 :: v43 :: v44 :: v45 :: v46 :: v47 :: v48 :: v49 :: v50 :: v51 :: v52 :: v53 :: v54 :: v55 :: v56 :: v57 :: v58 :: v59 :: v60 :: v61 :: v62 :: v63 :: v64 :: v65 :: v66 :: v67 :: v68 :: v69 :: v70 :: v71 :: v72 :: v73 :: v74 :: v75 :: v76 :: v77 :: v78 :: v79 :: v80 :: v81 :: v82 :: v83 :: v84 :: v85 :: v86 :: v87 :: v88 :: v89 :: v90 :: v91 :: v92 :: v93 :: v94 :: v95 :: v96 :: v97 :: v98 :: v99 :: v100 :: v101 :: v102 :: v103 :: v104 :: v105 :: v106 :: v107 :: v108 :: v109 :: v110 :: v111 :: v112 :: v113 :: v114 :: v115 :: v116 :: v117 :: v118 :: v119 :: v120 :: v121 :: v122 :: v123 :: v124 :: v125 :: v126 :: v127 :: v128 :: v129 :: v130 :: v131 :: v132 :: v133 :: v134 :: v135 :: v136 :: v137 :: v138 :: v139 :: v140 :: v141 :: v142 :: v143 :: v144 :: v145 :: v146 :: v147 :: v148 :: v149 :: v150 :: v151 :: v152 :: v153 :: v154 :: v155 :: v156 :: v157 :: v158 :: v159 :: v160 :: v161 :: v162 :: v163 :: v164 :: v165 :: v166 :: v167 :: v168 :: v169 :: v170 :: v171 :: v172 :: v173 :: v174 :: v175 :: v176 :: v177 :: v178 :: v179 :: v180 :: v181 :: v182 :: v183 :: v184 :: v185 :: v186 :: v187 :: v188 :: v189 :: v190 :: v191 :: v192 :: v193 :: v194 :: v195 :: v196 :: v197 :: v198 :: v199 :: v200 :: v201 :: v202 :: v203 :: v204 :: v205 :: v206 :: v207 :: v208 :: v209 :: v210 :: v211 :: v212 :: v213 :: v214 :: v215 :: v216 :: v217 :: v218 :: v219 :: v220 :: v221 :: v222 :: v223 :: v224 :: v225 :: v226 :: v227 :: v228 :: v229 :: v230 :: v231 :: v232 :: v233 :: v234 :: v235 :: v236 :: v237 :: v238 :: v239 :: v240 :: v241 :: v242 :: v243 :: v244 :: v245 :: v246 :: v247 :: v248 :: v249 :: v250 :: v251 :: v252 :: v253 :: v254 :: v255 :: v256 :: v257 :: v258 :: v259 :: v260 :: v261 :: v262 :: v263 :: v264 :: v265 :: v266 :: v267 :: v268 :: v269 :: v270 :: v271 :: v272 :: v273 :: v274 :: v275 :: v276 :: v277 :: v278 :: v279 :: v280 :: v281 :: v282 :: v283 :: v284 :: v285 :: v286 :: v287 :: v288 :: v289 :: v290 :: v291 :: v292 :: v293 :: v294 :: v295 :: v296 :: v297 :: v298 :: v299 :: v300 :: v301 :: v302 :: v303 :: v304 :: v305 :: v306 :: v307 :: v308 :: v309 :: v310 :: v311 :: v312 :: v313 :: v314 :: v315 :: v316 :: v317 :: v318 :: v319 :: v320 :: v321 :: v322 :: v323 :: v324 :: v325 :: v326 :: v327 :: v328 :: v329 :: v330 :: v331 :: v332 :: v333 :: v334 :: v335 :: v336 :: v337 :: v338 :: v339 :: v340 :: v341 :: v342 :: v343 :: v344 :: v345 :: v346 :: v347 :: v348 :: v349 :: v350 :: v351 :: v352 :: v353 :: v354 :: v355 :: v356 :: v357 :: v358 :: v359 :: v360 :: v361 :: v362 :: v363 :: v364 :: v365 :: v366 :: v367 :: v368 :: v369 :: v370 :: v371 :: v372 :: v373 :: v374 :: v375 :: v376 :: v377 :: v378 :: v379 :: v380 :: v381 :: v382 :: v383 :: v384 :: v385 :: v386 :: v387 :: v388 :: v389 :: v390 :: v391 :: v392 :: v393 :: v394 :: v395 :: v396 :: v397 :: v398 :: v399 :: v400 :: v401 :: v402 :: v403 :: v404 :: v405 :: v406 :: v407 :: v408 :: v409 :: v410 :: v411 :: v412 :: v413 :: v414 :: v415 :: v416 :: v417 :: v418 :: v419 :: v420 :: v421 :: v422 :: v423 :: v424 :: v425 :: v426 :: v427 :: v428 :: v429 :: v430 :: v431 :: v432 :: v433 :: v434 :: v435 :: v436 :: v437 :: v438 :: v439 :: v440 :: v441 :: v442 :: v443 :: v444 :: v445 :: v446 :: v447 :: v448 :: v449 :: v450 :: v451 :: v452 :: v453 :: v454 :: v455 :: v456 :: v457 :: v458 :: v459 :: v460 :: v461 :: v462 :: v463 :: v464 :: v465 :: v466 :: v467 :: v468 :: v469 :: v470 :: v471 :: v472 :: v473 :: v474 :: v475 :: v476 :: v477 :: v478 :: v479 :: v480 :: v481 :: v482 :: v483 :: v484 :: v485 :: v486 :: v487 :: v488 :: v489 :: v490 :: v491 :: v492 :: v493 :: v494 :: v495 :: v496 :: v497 :: v498 :: v499 :: v500 :: v501 :: v502 :: v503 :: v504 :: v505 :: v506 :: v507 :: v508 :: v509 :: v510 :: v511 :: v512 :: v513 :: v514 :: v515 :: v516 :: v517 :: v518 :: v519 :: v520 :: v521 :: v522 :: v523 :: v524 :: v525 :: v526 :: v527 :: v528 :: v529 :: v530 :: v531 :: v532 :: v533 :: v534 :: v535 :: v536 :: v537 :: v538 :: v539 :: v540 :: v541 :: v542 :: v543 :: v544 :: v545 :: v546 :: v547 :: v548 :: v549 :: v550 :: v551 :: v552 :: v553 :: v554 :: v555 :: v556 :: v557 :: v558 :: v559 :: v560 :: v561 :: v562 :: v563 :: v564 :: v565 :: v566 :: v567 :: v568 :: v569 :: v570 :: v571 :: v572 :: v573 :: v574 :: v575 :: v576 :: v577 :: v578 :: v579 :: v580 :: v581 :: v582 :: v583 :: v584 :: v585 :: v586 :: v587 :: v588 :: v589 :: v590 :: v591 :: v592 :: v593 :: v594 :: v595 :: v596 :: []), []⟩ w := by
  have HB := Aside0.mk hB
  have HQ0 := Aside0.mk hq
  clear hB hq
  conv => arg 2; whnf
  go_upto_if 210 with fail
  obtain ⟨wC, rfl⟩ : ∃ wC, wC = w := ⟨_, rfl⟩
  have HA0 := Aside0.mk (Below.refl wC.heap.size wC)
  go_cut [] from 597 (fun wc => Aside0 (Below wC.heap.size wC wc))
  case first =>
    clear HB HQ0
    clear K1
    clear HALL HDM HDA HDD HDT HDP HT
    have K60 := K6
    have KH0 := KH
    have KG0 := KG
    cases ok with
    | false => go_wp2; go_meet; case rel => exact HA0
    | true =>
      obtain ⟨fn, few, ds, dl, br, sm, mx, ls, ll, st, rfl, hfn, hP⟩ := HP.out rfl
      have HPP := Aside0.mk hP
      clear hP HP
      go_wp2
      go_loopg [23, 24, 25] (fn + 1) (fun gg v23 v24 v25 wr => ∃ (b : Nat) (a q : Int), v25 = .int .i64 (b : Int) ∧ v23 = .int .i64 a ∧ v24 = .int .i64 q ∧ b ≤ fn + 1 ∧ fn + 1 - b ≤ gg ∧ Aside0 (a = sm b ∧ q = mx b) ∧ Aside0 (Below wC.heap.size wC wr))
      case atStart => exact ⟨0, 0, 0, rfl, rfl, rfl, Nat.zero_le _, Nat.le_refl _, ⟨HPP.out.sm0.symm, HPP.out.mx0.symm⟩, HA0⟩
      case round =>
        clear HA0
        obtain ⟨b, a, q, rfl, rfl, rfl, hb1, hgg, HM, HBC⟩ := hrel
        obtain ⟨wm, rfl⟩ : ∃ wm, wm = wr := ⟨_, rfl⟩
        have n_ := Aside0.mk (Kd.C_below K6.out HBC.out)
        clear K6
        have K6 := n_
        clear n_
        have n_ := Aside0.mk (Kd.C_below KH.out HBC.out)
        clear KH
        have KH := n_
        clear n_
        have n_ := Aside0.mk (Kd.C_below KG.out HBC.out)
        clear KG
        have KG := n_
        clear n_
        rcases (by omega : b ≤ fn ∨ b = fn + 1) with hbn | hbn
        · as_aux_lemma =>
          clear KG KH0 KG0 K60
          have q1 : ((b : Int) ≤ (fn : Int)) = True := by rw [eq_iff_iff]; constructor <;> intro h_ <;> first | exact trivial | omega | exact h_.elim
          have HMD := Aside0.mk (HPP.out.md b hbn)
          have HMT := Aside0.mk (HPP.out.mt b hbn)
          have HLO := Aside0.mk (HPP.out.lo b hbn)
          have HID := Aside0.mk (HPP.out.id b hbn)
          have HEB := Aside0.mk (HPP.out.eb b hbn)
          have HEH := Aside0.mk (HPP.out.eh b hbn)
          have HMX := Aside0.mk (HPP.out.mxs b hbn)
          have HSM := Aside0.mk (HPP.out.sms b hbn)
          have HDL := Aside0.mk (HPP.out.dll b hbn)
          have d2 := HPP.out.bre b hbn
          clear HPP
          generalize ds b = d at HMD HLO HID HEB
          generalize dl b = l at HMD HMT HLO HID HEB HEH HMX HSM HDL
          generalize br b = r at HEB d2
          have q2 : (r > 2) = False := by clear q1; rw [eq_iff_iff]; constructor <;> intro h_ <;> first | exact trivial | omega | exact h_.elim
          clear d2
          have w1 : IntKind.i64.wrap ((b : Int) + 1) = (b : Int) + 1 := by clear q1 q2; rw [i64_w]; unfold wrap64; omega
          have w2 : IntKind.i64.wrap (a + (l : Int)) = sm (b + 1) := by rw [i64_w, HM.out.1, HSM.out.1]; have := HSM.out; have := HDL.out; clear q1 q2 w1; unfold wrap64; omega
          have w3 : ((0 : Int) == 0) = true := rfl
          clear HSM HDL
          go_wp2_with fail
          refine (HMD.out _ _ _ K6e K6.out ).mono ?_
          rintro e_ w1_ ⟨AKD_, cKD_, rfl, KDe, hKD_, hb⟩
          have KD_ := Aside0.mk hKD_
          clear hKD_
          have n_ := Aside0.mk (Kd.C_below K6.out hb)
          clear K6
          have K6 := n_
          clear n_
          have n_ := Aside0.mk (Kd.C_below KH.out hb)
          clear KH
          have KH := n_
          clear n_
          have n_ := Aside0.mk (below_step HBC.out hb)
          clear HBC
          have HBC := n_
          clear n_
          clear hb
          have KD := KD_
          clear KD_
          go_wp2_with fail
          refine (HMT.out _ _ _ K6e K6.out ).mono ?_
          rintro e_ w2_ ⟨rfl, hb⟩
          have n_ := Aside0.mk (Kd.C_below K6.out hb)
          clear K6
          have K6 := n_
          clear n_
          have n_ := Aside0.mk (Kd.C_below KH.out hb)
          clear KH
          have KH := n_
          clear n_
          have n_ := Aside0.mk (Kd.C_below KD.out hb)
          clear KD
          have KD := n_
          clear n_
          have n_ := Aside0.mk (below_step HBC.out hb)
          clear HBC
          have HBC := n_
          clear n_
          clear hb
          clear K6
          go_wp2_with fail
          refine (HLO.out _ _ _ KDe KD.out ).mono ?_
          rintro e_ w3_ ⟨rfl, hb⟩
          have n_ := Aside0.mk (Kd.C_below KH.out hb)
          clear KH
          have KH := n_
          clear n_
          have n_ := Aside0.mk (Kd.C_below KD.out hb)
          clear KD
          have KD := n_
          clear n_
          have n_ := Aside0.mk (below_step HBC.out hb)
          clear HBC
          have HBC := n_
          clear n_
          clear hb
          go_wp2_with fail
          refine (HID.out _ _ _ KDe KD.out ).mono ?_
          rintro e_ w4_ ⟨A9_, c9_, rfl, hb⟩
          have n_ := Aside0.mk (Kd.C_below KH.out hb)
          clear KH
          have KH := n_
          clear n_
          have n_ := Aside0.mk (Kd.C_below KD.out hb)
          clear KD
          have KD := n_
          clear n_
          have n_ := Aside0.mk (below_step HBC.out hb)
          clear HBC
          have HBC := n_
          clear n_
          clear hb
          go_wp2_with fail
          refine (HEB.out _ _ _ KDe KD.out ).mono ?_
          rintro e_ w5_ ⟨rfl, hb⟩
          have n_ := Aside0.mk (Kd.C_below KH.out hb)
          clear KH
          have KH := n_
          clear n_
          have n_ := Aside0.mk (Kd.C_below KD.out hb)
          clear KD
          have KD := n_
          clear n_
          have n_ := Aside0.mk (below_step HBC.out hb)
          clear HBC
          have HBC := n_
          clear n_
          clear hb
          clear KD
          go_wp2_with fail
          refine (HEH.out _ _ _ KHe KH.out ).mono ?_
          rintro e_ w6_ ⟨rfl, hb⟩
          have n_ := Aside0.mk (Kd.C_below KH.out hb)
          clear KH
          have KH := n_
          clear n_
          have n_ := Aside0.mk (below_step HBC.out hb)
          clear HBC
          have HBC := n_
          clear n_
          clear hb
          clear KH
          clear HMD HMT HLO HID HEB HEH
          cases hq : ((l : Int) == worst)
          · rcases (by clear q1 q2 w1 w2 w3 hq; omega : (l : Int) > q ∨ ¬ (l : Int) > q) with hl | hl
            · have HM2 : Aside0 ((l : Int) = mx (b + 1)) := ⟨by rw [HMX.out, ← HM.out.2]; clear q1 q2 w1 w2 w3 hq; omega⟩
              have q4 : ((l : Int) > q) = True := by clear q1 q2 w1 w2 w3 hq; rw [eq_iff_iff]; constructor <;> intro h_ <;> first | exact trivial | omega | exact h_.elim
              clear hl HMX HM
              go_wp2
              go_roundg (fn + 1 - (b + 1))
              case measure => clear q1 q2 q4 w1 w2 w3 hq; omega
              case rel => exact ⟨b + 1, sm (b + 1), (l : Int), by go_num, rfl, rfl, by clear q1 q2 q4 w1 w2 w3 hq; omega, by clear q1 q2 q4 w1 w2 w3 hq; omega, ⟨⟨rfl, HM2.out⟩⟩, HBC⟩
            · have HM2 : Aside0 (q = mx (b + 1)) := ⟨by rw [HMX.out, ← HM.out.2]; clear q1 q2 w1 w2 w3 hq; omega⟩
              have q4 : ((l : Int) > q) = False := by clear q1 q2 w1 w2 w3 hq; rw [eq_iff_iff]; constructor <;> intro h_ <;> first | exact trivial | omega | exact h_.elim
              clear hl HMX HM
              go_wp2
              go_roundg (fn + 1 - (b + 1))
              case measure => clear q1 q2 q4 w1 w2 w3 hq; omega
              case rel => exact ⟨b + 1, sm (b + 1), q, by go_num, rfl, rfl, by clear q1 q2 q4 w1 w2 w3 hq; omega, by clear q1 q2 q4 w1 w2 w3 hq; omega, ⟨⟨rfl, HM2.out⟩⟩, HBC⟩
          · rcases (by clear q1 q2 w1 w2 w3 hq; omega : (l : Int) > q ∨ ¬ (l : Int) > q) with hl | hl
            · have HM2 : Aside0 ((l : Int) = mx (b + 1)) := ⟨by rw [HMX.out, ← HM.out.2]; clear q1 q2 w1 w2 w3 hq; omega⟩
              have q4 : ((l : Int) > q) = True := by clear q1 q2 w1 w2 w3 hq; rw [eq_iff_iff]; constructor <;> intro h_ <;> first | exact trivial | omega | exact h_.elim
              clear hl HMX HM
              go_wp2
              go_roundg (fn + 1 - (b + 1))
              case measure => clear q1 q2 q4 w1 w2 w3 hq; omega
              case rel => exact ⟨b + 1, sm (b + 1), (l : Int), by go_num, rfl, rfl, by clear q1 q2 q4 w1 w2 w3 hq; omega, by clear q1 q2 q4 w1 w2 w3 hq; omega, ⟨⟨rfl, HM2.out⟩⟩, HBC⟩
            · have HM2 : Aside0 (q = mx (b + 1)) := ⟨by rw [HMX.out, ← HM.out.2]; clear q1 q2 w1 w2 w3 hq; omega⟩
              have q4 : ((l : Int) > q) = False := by clear q1 q2 w1 w2 w3 hq; rw [eq_iff_iff]; constructor <;> intro h_ <;> first | exact trivial | omega | exact h_.elim
              clear hl HMX HM
              go_wp2
              go_roundg (fn + 1 - (b + 1))
              case measure => clear q1 q2 q4 w1 w2 w3 hq; omega
              case rel => exact ⟨b + 1, sm (b + 1), q, by go_num, rfl, rfl, by clear q1 q2 q4 w1 w2 w3 hq; omega, by clear q1 q2 q4 w1 w2 w3 hq; omega, ⟨⟨rfl, HM2.out⟩⟩, HBC⟩
        · subst hbn
          have q1 : (((fn + 1 : Nat) : Int) ≤ (fn : Int)) = False := by rw [eq_iff_iff]; constructor <;> intro h_ <;> first | exact trivial | omega | exact h_.elim
          clear hb1 hgg
          have e1 : a = sum := HM.out.1.trans HPP.out.smn
          have e2 : q = worst := HM.out.2.trans HPP.out.mxn
          subst e1 e2
          clear HM
          have d1 := HPP.out.lwf
          have q2 : (q < few) = False := by clear q1; rw [eq_iff_iff]; constructor <;> intro h_ <;> first | exact trivial | omega | exact h_.elim
          clear d1
          have HLW := Aside0.mk HPP.out.lw
          have HR1 := Aside0.mk HPP.out.r1
          have HR2 := Aside0.mk HPP.out.r2
          go_wp2_with fail
          refine (HLW.out _   ).mono ?_
          rintro e_ w7_ ⟨rfl, hb⟩
          have n_ := Aside0.mk (Kd.C_below K6.out hb)
          clear K6
          have K6 := n_
          clear n_
          have n_ := Aside0.mk (Kd.C_below KH.out hb)
          clear KH
          have KH := n_
          clear n_
          have n_ := Aside0.mk (Kd.C_below KG.out hb)
          clear KG
          have KG := n_
          clear n_
          have n_ := Aside0.mk (below_step HBC.out hb)
          clear HBC
          have HBC := n_
          clear n_
          clear hb
          go_wp2_with fail
          refine (HR1.out _ _ _ KHe KH.out ).mono ?_
          rintro e_ w8_ ⟨rfl, hb⟩
          have n_ := Aside0.mk (Kd.C_below K6.out hb)
          clear K6
          have K6 := n_
          clear n_
          have n_ := Aside0.mk (Kd.C_below KH.out hb)
          clear KH
          have KH := n_
          clear n_
          have n_ := Aside0.mk (Kd.C_below KG.out hb)
          clear KG
          have KG := n_
          clear n_
          have n_ := Aside0.mk (below_step HBC.out hb)
          clear HBC
          have HBC := n_
          clear n_
          clear hb
          clear KH
          go_wp2_with fail
          refine (HR2.out _ _ _ KGe KG.out ).mono ?_
          rintro e_ w9_ ⟨rfl, hb⟩
          have n_ := Aside0.mk (Kd.C_below K6.out hb)
          clear K6
          have K6 := n_
          clear n_
          have n_ := Aside0.mk (Kd.C_below KG.out hb)
          clear KG
          have KG := n_
          clear n_
          have n_ := Aside0.mk (below_step HBC.out hb)
          clear HBC
          have HBC := n_
          clear n_
          clear hb
          clear HLW HR1 HR2
          go_wp2
          clear q1 q2
          go_loopg [333] n (fun gg v333 wq => ∃ (k : Nat), v333 = .int .i64 (k : Int) ∧ k ≤ n ∧ n - k ≤ gg ∧ Aside0 (Below wC.heap.size wC wq))
          case atStart => exact ⟨0, rfl, Nat.zero_le _, Nat.le_refl _, HBC⟩
          case round =>
            clear HBC
            obtain ⟨k, rfl, hk1, hgg, HBC⟩ := hrel
            obtain ⟨wn, rfl⟩ : ∃ wn, wn = wr := ⟨_, rfl⟩
            clear K6 KG
            have K6 := Aside0.mk (Kd.C_below K60.out HBC.out)
            have KG := Aside0.mk (Kd.C_below KG0.out HBC.out)
            clear K60 KG0 KH0
            rcases (by omega : k < n ∨ k = n) with hkn | hkn
            · as_aux_lemma =>
              have q1 : ((k : Int) < (n : Int)) = True := by rw [eq_iff_iff]; constructor <;> intro h_ <;> first | exact trivial | omega | exact h_.elim
              have HDM := Aside0.mk (HPP.out.dm k hkn)
              have HDW := Aside0.mk (HPP.out.dw k hkn)
              have HDA := Aside0.mk (HPP.out.da k hkn)
              have HDH := Aside0.mk (HPP.out.dh k hkn)
              have HSA := Aside0.mk HPP.out.sa
              clear HPP
              generalize ls k = lk at HDM HDW HDA
              generalize ll k = nk at HDM HDW HDA
              generalize st k = sk at HDW HDH
              have w1 : IntKind.i64.wrap ((k : Int) + 1) = (k : Int) + 1 := by clear q1; rw [i64_w]; unfold wrap64; omega
              go_wp2_with fail
              refine (HDM.out _ _ _ K6e K6.out ).mono ?_
              rintro e_ w10_ ⟨AKD_, cKD_, rfl, KDe, hKD_, hb⟩
              have KD_ := Aside0.mk hKD_
              clear hKD_
              have n_ := Aside0.mk (Kd.C_below K6.out hb)
              clear K6
              have K6 := n_
              clear n_
              have n_ := Aside0.mk (Kd.C_below KG.out hb)
              clear KG
              have KG := n_
              clear n_
              have n_ := Aside0.mk (below_step HBC.out hb)
              clear HBC
              have HBC := n_
              clear n_
              clear hb
              have KD := KD_
              clear KD_
              go_wp2_with fail
              refine (HDW.out _ _ _ KDe KD.out ).mono ?_
              rintro e_ w11_ ⟨rfl, hb⟩
              have n_ := Aside0.mk (Kd.C_below K6.out hb)
              clear K6
              have K6 := n_
              clear n_
              have n_ := Aside0.mk (Kd.C_below KG.out hb)
              clear KG
              have KG := n_
              clear n_
              have n_ := Aside0.mk (Kd.C_below KD.out hb)
              clear KD
              have KD := n_
              clear n_
              have n_ := Aside0.mk (below_step HBC.out hb)
              clear HBC
              have HBC := n_
              clear n_
              clear hb
              obtain ⟨ad9, e9_, hx9⟩ := Kd.at_int K6.out (k : Int) (by clear q1 w1; omega) (by clear q1 w1; omega)
              cases e9_
              have q5 : (k : Int) < (n : Int) := by clear q1 w1; omega
              rw [Int.toNat_natCast] at hx9
              generalize rd m (k : Int) = y9 at hx9 HDA
              go_wp2_with fail
              refine (HDA.out _ _ _ KDe KD.out ).mono ?_
              rintro e_ w12_ ⟨AKZ_, cKZ_, rfl, KZe, hKZ_, hb⟩
              have KZ_ := Aside0.mk hKZ_
              clear hKZ_
              have n_ := Aside0.mk (Kd.C_below K6.out hb)
              clear K6
              have K6 := n_
              clear n_
              have n_ := Aside0.mk (Kd.C_below KG.out hb)
              clear KG
              have KG := n_
              clear n_
              have n_ := Aside0.mk (Kd.C_below KD.out hb)
              clear KD
              have KD := n_
              clear n_
              have n_ := Aside0.mk (below_step HBC.out hb)
              clear HBC
              have HBC := n_
              clear n_
              clear hb
              have KZ := KZ_
              clear KZ_
              clear hx9 q5
              clear KD
              go_wp2_with fail
              refine (HDH.out _ _ _ KGe KG.out ).mono ?_
              rintro e_ w13_ ⟨rfl, hb⟩
              have n_ := Aside0.mk (Kd.C_below K6.out hb)
              clear K6
              have K6 := n_
              clear n_
              have n_ := Aside0.mk (Kd.C_below KG.out hb)
              clear KG
              have KG := n_
              clear n_
              have n_ := Aside0.mk (Kd.C_below KZ.out hb)
              clear KZ
              have KZ := n_
              clear n_
              have n_ := Aside0.mk (below_step HBC.out hb)
              clear HBC
              have HBC := n_
              clear n_
              clear hb
              clear KG
              go_wp2_with fail
              refine (HSA.out _ _ _ _ _ KZe KZ.out K6e K6.out ).mono ?_
              rintro e_ w14_ ⟨rfl, hb⟩
              have n_ := Aside0.mk (Kd.C_below K6.out hb)
              clear K6
              have K6 := n_
              clear n_
              have n_ := Aside0.mk (Kd.C_below KZ.out hb)
              clear KZ
              have KZ := n_
              clear n_
              have n_ := Aside0.mk (below_step HBC.out hb)
              clear HBC
              have HBC := n_
              clear n_
              clear hb
              clear KZ
              clear K6
              clear HDM HDW HDA HDH HSA
              cases hq : (sk == q)
              · go_wp2
                go_roundg (n - (k + 1))
                case measure => clear q1 w1 hq; omega
                case rel => exact ⟨k + 1, by go_num, by clear q1 w1 hq; omega, by clear q1 w1 hq; omega, HBC⟩
              · go_wp2
                go_roundg (n - (k + 1))
                case measure => clear q1 w1 hq; omega
                case rel => exact ⟨k + 1, by go_num, by clear q1 w1 hq; omega, by clear q1 w1 hq; omega, HBC⟩
            · subst hkn
              have q1 : ((k : Int) < (k : Int)) = False := by rw [eq_iff_iff]; constructor <;> intro h_ <;> first | exact trivial | omega | exact h_.elim
              clear HPP hk1 hgg K6 KG
              go_wp2
              go_meet
              case rel => exact HBC
  case rest =>
    clear K6
    clear KH
    clear KG
    have hb := hcut.out
    clear hcut HA0
    have n_ := Aside0.mk (Kd.C_below K1.out hb)
    clear K1
    have K1 := n_
    clear n_
    have n_ := Aside0.mk (below_step HB.out hb)
    clear HB
    have HB := n_
    clear n_
    have n_ := Aside0.mk (TabsE.below HT.out hb)
    clear HT
    have HT := n_
    clear n_
    clear hb
    go_step
    exact mk_calls HQ0.out HB.out HT HALL HDM HDA HDD HDT HDP K1e K1
set_option maxHeartbeats 60000000 in
set_option maxRecDepth 100000 in
theorem mk_209 {more : List Int} {nmo c1 : Nat} {A1 : Option Addr} {f worst sum : Int} {m hard harm : List Int} {n nh ng c6 c7 c19 : Nat} {A6 A7 A19 : Option Addr} {ok : Bool} {c9 c21 : Nat} {A9 A21 : Option Addr} {v0 v2 v3 v4 v23 v24 v25 v26 v27 v28 v29 v30 v31 v32 v33 v34 v35 v36 v37 v38 v39 v40 v41 v42 v43 v44 v45 v46 v47 v48 v49 v50 v51 v52 v53 v54 v55 v56 v57 v58 v59 v60 v61 v62 v63 v64 v65 v66 v67 v68 v69 v70 v71 v72 v73 v74 v75 v76 v77 v78 v79 v80 v81 v82 v83 v84 v85 v86 v87 v88 v89 v90 v91 v92 v93 v94 v95 v96 v97 v98 v99 v100 v101 v102 v103 v104 v105 v106 v107 v108 v109 v110 v111 v112 v113 v114 v115 v116 v117 v118 v119 v120 v121 v122 v123 v124 v125 v126 v127 v128 v129 v130 v131 v132 v133 v134 v135 v136 v137 v138 v139 v140 v141 v142 v143 v144 v145 v146 v147 v148 v149 v150 v151 v152 v153 v154 v155 v156 v157 v158 v159 v160 v161 v162 v163 v164 v165 v166 v167 v168 v169 v170 v171 v172 v173 v174 v175 v176 v177 v178 v179 v180 v181 v182 v183 v184 v185 v186 v187 v188 v189 v190 v191 v192 v193 v194 v195 v196 v197 v198 v199 v200 v201 v202 v203 v204 v205 v206 v207 v208 v209 v210 v211 v212 v213 v214 v215 v216 v217 v218 v219 v220 v221 v222 v223 v224 v225 v226 v227 v228 v229 v230 v231 v232 v233 v234 v235 v236 v237 v238 v239 v240 v241 v242 v243 v244 v245 v246 v247 v248 v249 v250 v251 v252 v253 v254 v255 v256 v257 v258 v259 v260 v261 v262 v263 v264 v265 v266 v267 v268 v269 v270 v271 v272 v273 v274 v275 v276 v277 v278 v279 v280 v281 v282 v283 v284 v285 v286 v287 v288 v289 v290 v291 v292 v293 v294 v295 v296 v297 v298 v299 v300 v301 v302 v303 v304 v305 v306 v307 v308 v309 v310 v311 v312 v313 v314 v315 v316 v317 v318 v319 v320 v321 v322 v323 v324 v325 v326 v327 v328 v329 v330 v331 v332 v333 v334 v335 v336 v337 v338 v339 v340 v341 v342 v343 v344 v345 v346 v347 v348 v349 v350 v351 v352 v353 v354 v355 v356 v357 v358 v359 v360 v361 v362 v363 v364 v365 v366 v367 v368 v369 v370 v371 v372 v373 v374 v375 v376 v377 v378 v379 v380 v381 v382 v383 v384 v385 v386 v387 v388 v389 v390 v391 v392 v393 v394 v395 v396 v397 v398 v399 v400 v401 v402 v403 v404 v405 v406 v407 v408 v409 v410 v411 v412 v413 v414 v415 v416 v417 v418 v419 v420 v421 v422 v423 v424 v425 v426 v427 v428 v429 v430 v431 v432 v433 v434 v435 v436 v437 v438 v439 v440 v441 v442 v443 v444 v445 v446 v447 v448 v449 v450 v451 v452 v453 v454 v455 v456 v457 v458 v459 v460 v461 v462 v463 v464 v465 v466 v467 v468 v469 v470 v471 v472 v473 v474 v475 v476 v477 v478 v479 v480 v481 v482 v483 v484 v485 v486 v487 v488 v489 v490 v491 v492 v493 v494 v495 v496 v497 v498 v499 v500 v501 v502 v503 v504 v505 v506 v507 v508 v509 v510 v511 v512 v513 v514 v515 v516 v517 v518 v519 v520 v521 v522 v523 v524 v525 v526 v527 v528 v529 v530 v531 v532 v533 v534 v535 v536 v537 v538 v539 v540 v541 v542 v543 v544 v545 v546 v547 v548 v549 v550 v551 v552 v553 v554 v555 v556 v557 v558 v559 v560 v561 v562 v563 v564 v565 v566 v567 v568 v569 v570 v571 v572 v573 v574 v575 v576 v577 v578 v579 v580 v581 v582 v583 v584 v585 v586 v587 v588 v589 v590 v591 v592 v593 v594 v595 v596 : Value} {Q : Exit → Act → World → Prop} {w0 w : World} (hq : ∀ (tm : Array Value) w', tm.getD 4 undef = .bool true → Below w0.heap.size w0 w' → Q .ret ⟨tm, []⟩ w') (hB : Below w0.heap.size w0 w) (HT : Aside0 (TabsE w)) (HE1 : Aside0 (MSame hard nh)) (HE2 : Aside0 (MSame harm ng)) (HA1 : Aside0 (MB2 15 f m n ok)) (HA2 : Aside0 (MB2 16 f m n ok)) (KIe : nh ≤ c9) (KI : Aside0 (Kd.C (Kd.int .i64) w A9 nh hard)) (KJe : ng ≤ c21) (KJ : Aside0 (Kd.C (Kd.int .i64) w A21 ng harm)) (HP : Aside0 (ok = true → ∃ (fn : Nat), ∃ few ds dl br sm mx ls ll st, f = (fn : Int) ∧ fn ≤ 100 ∧ MP fn m n hard nh worst sum harm ng few ds dl br sm mx ls ll st)) (K6e : n ≤ c6) (K6 : Aside0 (Kd.C (Kd.int .i64) w A6 n m)) (KHe : nh ≤ c7) (KH : Aside0 (Kd.C (Kd.int .i64) w A7 nh hard)) (KGe : ng ≤ c19) (KG : Aside0 (Kd.C (Kd.int .i64) w A19 ng harm)) (hn110 : n ≤ 110) (HALL : Aside0 MAll) (HDM : Aside0 (MDr3 27 more nmo)) (HDA : Aside0 (MDr3 30 more nmo)) (HDD : Aside0 (MDr3 32 more nmo)) (HDT : Aside0 (MDr1 34 more nmo)) (HDP : Aside0 (MDrS 37 more nmo)) (K1e : nmo ≤ c1) (K1 : Aside0 (Kd.C (Kd.int .u8) w A1 nmo more)) :
    Code.wp Tryz.prog (mkDrop_ 11 mkBody) Q ⟨List.toArray (v0 :: .slice A1 nmo c1 :: v2 :: v3 :: v4 :: .int .i64 f :: .slice A6 n c6 :: .slice A7 nh c7 :: .bool ok :: .slice A9 nh c9 :: .bool ok :: .int .i64 worst :: .bool ok :: .int .i64 worst :: .bool ok :: .int .i64 sum :: .bool ok :: .int .i64 sum :: .bool ok :: .slice A19 ng c19 :: .bool ok :: .slice A21 ng c21 :: .bool ok :: v23 :: v24 :: v25 :: v26 :: v27 :: v28 :: v29 :: v30 :: v31 :: v32 :: v33 :: v34 :: v35 :: v36 :: v37 :: v38 :: v39 :: v40 :: v41 :: v42 :: v43 :: v44 :: v45 :: v46 :: v47 :: v48 :: v49 :: v50 :: v51 :: v52 :: v53 :: v54 :: v55 :: v56 :: v57 :: v58 :: v59 :: v60 :: v61 :: v62 :: v63 :: v64 :: v65 :: v66 :: v67 :: v68 :: v69 :: v70 :: v71 :: v72 :: v73 :: v74 :: v75 :: v76 :: v77 :: v78 :: v79 :: v80 :: v81 :: v82 :: v83 :: v84 :: v85 :: v86 :: v87 :: v88 :: v89 :: v90 :: v91 :: v92 :: v93 :: v94 :: v95 :: v96 :: v97 :: v98 :: v99 :: v100 :: v101 :: v102 :: v103 :: v104 :: v105 :: v106 :: v107 :: v108 :: v109 :: v110 :: v111 :: v112 :: v113 :: v114 :: v115 :: v116 :: v117 :: v118 :: v119 :: v120 :: v121 :: v122 :: v123 :: v124 :: v125 :: v126 :: v127 :: v128 :: v129 :: v130 :: v131 :: v132 :: v133 :: v134 :: v135 :: v136 :: v137 :: v138 :: v139 :: v140 :: v141 :: v142 :: v143 :: v144 :: v145 :: v146 :: v147 :: v148 :: v149 :: v150 :: v151 :: v152 :: v153 :: v154 :: v155 :: v156 :: v157 :: v158 :: v159 :: v160 :: v161 :: v162 :: v163 :: v164 :: v165 :: v166 :: v167 :: v168 :: v169 :: v170 :: v171 :: v172 :: v173 :: v174 :: v175 :: v176 :: v177 :: v178 :: v179 :: v180 :: v181 :: v182 :: v183 :: v184 :: v185 :: v186 :: v187 :: v188 :: v189 :: v190 :: v191 :: v192 :: v193 :: v194 :: v195 :: v196 :: v197 :: v198 :: v199 :: v200 :: v201 :: v202 :: v203 :: v204 :: v205 :: v206 :: v207 :: v208 :: v209 :: v210 :: v211 :: v212 :: v213 :: v214 :: v215 :: v216 :: v217 :: v218 :: v219 :: v220 :: v221 :: v222 :: v223 :: v224 :: v225 :: v226 :: v227 :: v228 :: v229 :: v230 :: v231 :: v232 :: v233 :: v234 :: v235 :: v236 :: v237 :: v238 :: v239 :: v240 :: v241 :: v242 :: v243 :: v244 :: v245 :: v246 :: v247 :: v248 :: v249 :: v250 :: v251 :: v252 :: v253 :: v254 :: v255 :: v256 :: v257 :: v258 :: v259 :: v260 :: v261 :: v262 :: v263 :: v264 :: v265 :: v266 :: v267 :: v268 :: v269 :: v270 :: v271 :: v272 :: v273 :: v274 :: v275 :: v276 :: v277 :: v278 :: v279 :: v280 :: v281 :: v282 :: v283 :: v284 :: v285 :: v286 :: v287 :: v288 :: v289 :: v290 :: v291 :: v292 :: v293 :: v294 :: v295 :: v296 :: v297 :: v298 :: v299 :: v300 :: v301 :: v302 :: v303 :: v304 :: v305 :: v306 :: v307 :: v308 :: v309 :: v310 :: v311 :: v312 :: v313 :: v314 :: v315 :: v316 :: v317 :: v318 :: v319 :: v320 :: v321 :: v322 :: v323 :: v324 :: v325 :: v326 :: v327 :: v328 :: v329 :: v330 :: v331 :: v332 :: v333 :: v334 :: v335 :: v336 :: v337 :: v338 :: v339 :: v340 :: v341 :: v342 :: v343 :: v344 :: v345 :: v346 :: v347 :: v348 :: v349 :: v350 :: v351 :: v352 :: v353 :: v354 :: v355 :: v356 :: v357 :: v358 :: v359 :: v360 :: v361 :: v362 :: v363 :: v364 :: v365 :: v366 :: v367 :: v368 :: v369 :: v370 :: v371 :: v372 :: v373 :: v374 :: v375 :: v376 :: v377 :: v378 :: v379 :: v380 :: v381 :: v382 :: v383 :: v384 :: v385 :: v386 :: v387 :: v388 :: v389 :: v390 :: v391 :: v392 :: v393 :: v394 :: v395 :: v396 :: v397 :: v398 :: v399 :: v400 :: v401 :: v402 :: v403 :: v404 :: v405 :: v406 :: v407 :: v408 :: v409 :: v410 :: v411 :: v412 :: v413 :: v414 :: v415 :: v416 :: v417 :: v418 :: v419 :: v420 :: v421 :: v422 :: v423 :: v424 :: v425 :: v426 :: v427 :: v428 :: v429 :: v430 :: v431 :: v432 :: v433 :: v434 :: v435 :: v436 :: v437 :: v438 :: v439 :: v440 :: v441 :: v442 :: v443 :: v444 :: v445 :: v446 :: v447 :: v448 :: v449 :: v450 :: v451 :: v452 :: v453 :: v454 :: v455 :: v456 :: v457 :: v458 :: v459 :: v460 :: v461 :: v462 :: v463 :: v464 :: v465 :: v466 :: v467 :: v468 :: v469 :: v470 :: v471 :: v472 :: v473 :: v474 :: v475 :: v476 :: v477 :: v478 :: v479 :: v480 :: v481 :: v482 :: v483 :: v484 :: v485 :: v486 :: v487 :: v488 :: v489 :: v490 :: v491 :: v492 :: v493 :: v494 :: v495 :: v496 :: v497 :: v498 :: v499 :: v500 :: v501 :: v502 :: v503 :: v504 :: v505 :: v506 :: v507 :: v508 :: v509 :: v510 :: v511 :: v512 :: v513 :: v514 :: v515 :: v516 :: v517 :: v518 :: v519 :: v520 :: v521 :: v522 :: v523 :: v524 :: v525 :: v526 :: v527 :: v528 :: v529 :: v530 :: v531 :: v532 :: v533 :: v534 :: v535 :: v536 :: v537 :: v538 :: v539 :: v540 :: v541 :: v542 :: v543 :: v544 :: v545 :: v546 :: v547 :: v548 :: v549 :: v550 :: v551 :: v552 :: v553 :: v554 :: v555 :: v556 :: v557 :: v558 :: v559 :: v560 :: v561 :: v562 :: v563 :: v564 :: v565 :: v566 :: v567 :: v568 :: v569 :: v570 :: v571 :: v572 :: v573 :: v574 :: v575 :: v576 :: v577 :: v578 :: v579 :: v580 :: v581 :: v582 :: v583 :: v584 :: v585 :: v586 :: v587 :: v588 :: v589 :: v590 :: v591 :: v592 :: v593 :: v594 :: v595 :: v596 :: []), []⟩ w := by
  have HB := Aside0.mk hB
  have HQ0 := Aside0.mk hq
  clear hB hq
  conv => arg 2; whnf
  go_upto_region 12 with (fail)
  obtain ⟨wC, rfl⟩ : ∃ wC, wC = w := ⟨_, rfl⟩
  have HA0 := Aside0.mk (Below.refl wC.heap.size wC)
  go_cut [209] from 597 (fun v209 wc => v209 = .bool false ∧ Aside0 (Below wC.heap.size wC wc))
  case first =>
    clear HB HQ0
    clear K1
    clear HP HALL HDM HDA HDD HDT HDP HT
    go_wp2_with fail
    refine (HE1.out _ _ _ _ _ KHe KH.out KIe KI.out ).mono ?_
    rintro e_ w1_ ⟨rfl, hb⟩
    have n_ := Aside0.mk (Kd.C_below K6.out hb)
    clear K6
    have K6 := n_
    clear n_
    have n_ := Aside0.mk (Kd.C_below KH.out hb)
    clear KH
    have KH := n_
    clear n_
    have n_ := Aside0.mk (Kd.C_below KG.out hb)
    clear KG
    have KG := n_
    clear n_
    have n_ := Aside0.mk (Kd.C_below KI.out hb)
    clear KI
    have KI := n_
    clear n_
    have n_ := Aside0.mk (Kd.C_below KJ.out hb)
    clear KJ
    have KJ := n_
    clear n_
    have n_ := Aside0.mk (below_step HA0.out hb)
    clear HA0
    have HA0 := n_
    clear n_
    clear hb
    clear KH
    clear KI
    go_wp2_with fail
    refine (HE2.out _ _ _ _ _ KGe KG.out KJe KJ.out ).mono ?_
    rintro e_ w2_ ⟨rfl, hb⟩
    have n_ := Aside0.mk (Kd.C_below K6.out hb)
    clear K6
    have K6 := n_
    clear n_
    have n_ := Aside0.mk (Kd.C_below KG.out hb)
    clear KG
    have KG := n_
    clear n_
    have n_ := Aside0.mk (Kd.C_below KJ.out hb)
    clear KJ
    have KJ := n_
    clear n_
    have n_ := Aside0.mk (below_step HA0.out hb)
    clear HA0
    have HA0 := n_
    clear n_
    clear hb
    clear KG
    clear KJ
    go_wp2_with fail
    refine (HA1.out _ _ _ K6e K6.out ).mono ?_
    rintro e_ w3_ ⟨rfl, hb⟩
    have n_ := Aside0.mk (Kd.C_below K6.out hb)
    clear K6
    have K6 := n_
    clear n_
    have n_ := Aside0.mk (below_step HA0.out hb)
    clear HA0
    have HA0 := n_
    clear n_
    clear hb
    go_wp2_with fail
    refine (HA1.out _ _ _ K6e K6.out ).mono ?_
    rintro e_ w4_ ⟨rfl, hb⟩
    have n_ := Aside0.mk (Kd.C_below K6.out hb)
    clear K6
    have K6 := n_
    clear n_
    have n_ := Aside0.mk (below_step HA0.out hb)
    clear HA0
    have HA0 := n_
    clear n_
    clear hb
    go_wp2_with fail
    refine (HA2.out _ _ _ K6e K6.out ).mono ?_
    rintro e_ w5_ ⟨rfl, hb⟩
    have n_ := Aside0.mk (Kd.C_below K6.out hb)
    clear K6
    have K6 := n_
    clear n_
    have n_ := Aside0.mk (below_step HA0.out hb)
    clear HA0
    have HA0 := n_
    clear n_
    clear hb
    clear K6
    clear HE1 HE2 HA1 HA2
    go_wp2
    go_meet
    case rel => exact ⟨rfl, HA0⟩
  case rest =>
    obtain ⟨rfl, hb_⟩ := hcut
    have hb := hb_.out
    clear hb_ HA0
    clear KI
    clear KJ
    clear HE1 HE2 HA1 HA2
    have n_ := Aside0.mk (Kd.C_below K6.out hb)
    clear K6
    have K6 := n_
    clear n_
    have n_ := Aside0.mk (Kd.C_below KH.out hb)
    clear KH
    have KH := n_
    clear n_
    have n_ := Aside0.mk (Kd.C_below KG.out hb)
    clear KG
    have KG := n_
    clear n_
    have n_ := Aside0.mk (Kd.C_below K1.out hb)
    clear K1
    have K1 := n_
    clear n_
    have n_ := Aside0.mk (below_step HB.out hb)
    clear HB
    have HB := n_
    clear n_
    have n_ := Aside0.mk (TabsE.below HT.out hb)
    clear HT
    have HT := n_
    clear n_
    clear hb
    go_upto_if 209 with fail
    obtain ⟨wD, rfl⟩ : ∃ wD, wD = wc := ⟨_, rfl⟩
    have HA0 := Aside0.mk (Below.refl wD.heap.size wD)
    go_cut [] from 597 (fun wc => Aside0 (Below wD.heap.size wD wc))
    case first => go_wp2; go_meet; case rel => exact HA0
    case rest =>
      have hb := hcut.out
      clear hcut HA0
      have n_ := Aside0.mk (Kd.C_below K6.out hb)
      clear K6
      have K6 := n_
      clear n_
      have n_ := Aside0.mk (Kd.C_below KH.out hb)
      clear KH
      have KH := n_
      clear n_
      have n_ := Aside0.mk (Kd.C_below KG.out hb)
      clear KG
      have KG := n_
      clear n_
      have n_ := Aside0.mk (Kd.C_below K1.out hb)
      clear K1
      have K1 := n_
      clear n_
      have n_ := Aside0.mk (below_step HB.out hb)
      clear HB
      have HB := n_
      clear n_
      have n_ := Aside0.mk (TabsE.below HT.out hb)
      clear HT
      have HT := n_
      clear n_
      clear hb
      go_step
      exact mk_210 HQ0.out HB.out HT HP K6e K6 KHe KH KGe KG hn110 HALL HDM HDA HDD HDT HDP K1e K1
set_option maxHeartbeats 60000000 in
set_option maxRecDepth 100000 in
theorem marks_law (code more : List Int) (nc nmo : Nat) (hall : MAll) (hdw : MDr2 5 code nc) (hdm : MDr3 27 more nmo) (hda : MDr3 30 more nmo) (hdd : MDr3 32 more nmo) (hdt : MDr1 34 more nmo) (hdp : MDrS 37 more nmo) (hbig : MBig code nc more nmo)
    (A0 A1 : Option Addr) (c0 c1 : Nat) (w : World) (K0e : nc ≤ c0) (hK0 : Kd.C (Kd.int .u8) w A0 nc code) (K1e : nmo ≤ c1) (hK1 : Kd.C (Kd.int .u8) w A1 nmo more) (ht : TabsE w) :
    Calls Tryz.prog 3 #[.slice A0 nc c0, .slice A1 nmo c1] w fun e w' => e = .returned (.bool true) ∧ Below w.heap.size w w' := by
  have K0 := Aside0.mk hK0
  have K1 := Aside0.mk hK1
  have HT := Aside0.mk ht
  have HALL := Aside0.mk hall
  have HDW := Aside0.mk hdw
  have HDM := Aside0.mk hdm
  have HDA := Aside0.mk hda
  have HDD := Aside0.mk hdd
  have HDT := Aside0.mk hdt
  have HDP := Aside0.mk hdp
  have HBIG := Aside0.mk hbig
  clear hK0 hK1 ht hall hdw hdm hda hdd hdt hdp hbig
  have HB := Aside0.mk (Below.refl w.heap.size w)
  go_enter Tryz.func3, Tryz.ntmps3
  go_wp2_with fail
  refine (HBIG.out _ _ _ _ _ K0e K0.out K1e K1.out ).mono ?_
  rintro e_ w1_ ⟨rfl, hb⟩
  have n_ := Aside0.mk (Kd.C_below K0.out hb)
  clear K0
  have K0 := n_
  clear n_
  have n_ := Aside0.mk (Kd.C_below K1.out hb)
  clear K1
  have K1 := n_
  clear n_
  have n_ := Aside0.mk (below_step HB.out hb)
  clear HB
  have HB := n_
  clear n_
  have n_ := Aside0.mk (TabsE.below HT.out hb)
  clear HT
  have HT := n_
  clear n_
  clear hb
  clear HBIG
  go_wp2_with fail
  refine (HDW.out _ _ _ K0e K0.out ).mono ?_
  rintro e_ w2_ ⟨f, m, n, A_, c_, rfl, K6e, hl_, hn110, hf_, hc_, hb⟩
  have n_ := Aside0.mk (Kd.C_below K0.out hb)
  clear K0
  have K0 := n_
  clear n_
  have n_ := Aside0.mk (Kd.C_below K1.out hb)
  clear K1
  have K1 := n_
  clear n_
  have n_ := Aside0.mk (below_step HB.out hb)
  clear HB
  have HB := n_
  clear n_
  have n_ := Aside0.mk (TabsE.below HT.out hb)
  clear HT
  have HT := n_
  clear n_
  clear hb
  clear K0
  clear HDW
  have K6 := Aside0.mk hc_
  clear hc_
  obtain ⟨hard, nh, worst, sum, harm, ng, ok, T, P⟩ := HALL.out.h f m n hl_ hn110 hf_
  have T := Aside0.mk T
  have HP := Aside0.mk P
  clear P hl_ hf_
  go_wp2_with fail
  refine (T.out.h1 _ _ _ K6e K6.out ).mono ?_
  rintro e_ w3_ ⟨AKH_, cKH_, rfl, KHe, hKH_, hb⟩
  have KH_ := Aside0.mk hKH_
  clear hKH_
  have n_ := Aside0.mk (Kd.C_below K1.out hb)
  clear K1
  have K1 := n_
  clear n_
  have n_ := Aside0.mk (Kd.C_below K6.out hb)
  clear K6
  have K6 := n_
  clear n_
  have n_ := Aside0.mk (below_step HB.out hb)
  clear HB
  have HB := n_
  clear n_
  have n_ := Aside0.mk (TabsE.below HT.out hb)
  clear HT
  have HT := n_
  clear n_
  clear hb
  have KH := KH_
  clear KH_
  go_wp2_with fail
  refine (T.out.h2 _ _ _ K6e K6.out ).mono ?_
  rintro e_ w4_ ⟨AKI_, cKI_, rfl, KIe, hKI_, hb⟩
  have KI_ := Aside0.mk hKI_
  clear hKI_
  have n_ := Aside0.mk (Kd.C_below K1.out hb)
  clear K1
  have K1 := n_
  clear n_
  have n_ := Aside0.mk (Kd.C_below K6.out hb)
  clear K6
  have K6 := n_
  clear n_
  have n_ := Aside0.mk (Kd.C_below KH.out hb)
  clear KH
  have KH := n_
  clear n_
  have n_ := Aside0.mk (below_step HB.out hb)
  clear HB
  have HB := n_
  clear n_
  have n_ := Aside0.mk (TabsE.below HT.out hb)
  clear HT
  have HT := n_
  clear n_
  clear hb
  have KI := KI_
  clear KI_
  go_wp2_with fail
  refine (T.out.w1 _ _ _ K6e K6.out ).mono ?_
  rintro e_ w5_ ⟨rfl, hb⟩
  have n_ := Aside0.mk (Kd.C_below K1.out hb)
  clear K1
  have K1 := n_
  clear n_
  have n_ := Aside0.mk (Kd.C_below K6.out hb)
  clear K6
  have K6 := n_
  clear n_
  have n_ := Aside0.mk (Kd.C_below KH.out hb)
  clear KH
  have KH := n_
  clear n_
  have n_ := Aside0.mk (Kd.C_below KI.out hb)
  clear KI
  have KI := n_
  clear n_
  have n_ := Aside0.mk (below_step HB.out hb)
  clear HB
  have HB := n_
  clear n_
  have n_ := Aside0.mk (TabsE.below HT.out hb)
  clear HT
  have HT := n_
  clear n_
  clear hb
  go_wp2_with fail
  refine (T.out.w2 _ _ _ K6e K6.out ).mono ?_
  rintro e_ w6_ ⟨rfl, hb⟩
  have n_ := Aside0.mk (Kd.C_below K1.out hb)
  clear K1
  have K1 := n_
  clear n_
  have n_ := Aside0.mk (Kd.C_below K6.out hb)
  clear K6
  have K6 := n_
  clear n_
  have n_ := Aside0.mk (Kd.C_below KH.out hb)
  clear KH
  have KH := n_
  clear n_
  have n_ := Aside0.mk (Kd.C_below KI.out hb)
  clear KI
  have KI := n_
  clear n_
  have n_ := Aside0.mk (below_step HB.out hb)
  clear HB
  have HB := n_
  clear n_
  have n_ := Aside0.mk (TabsE.below HT.out hb)
  clear HT
  have HT := n_
  clear n_
  clear hb
  go_wp2_with fail
  refine (T.out.s1 _ _ _ K6e K6.out ).mono ?_
  rintro e_ w7_ ⟨rfl, hb⟩
  have n_ := Aside0.mk (Kd.C_below K1.out hb)
  clear K1
  have K1 := n_
  clear n_
  have n_ := Aside0.mk (Kd.C_below K6.out hb)
  clear K6
  have K6 := n_
  clear n_
  have n_ := Aside0.mk (Kd.C_below KH.out hb)
  clear KH
  have KH := n_
  clear n_
  have n_ := Aside0.mk (Kd.C_below KI.out hb)
  clear KI
  have KI := n_
  clear n_
  have n_ := Aside0.mk (below_step HB.out hb)
  clear HB
  have HB := n_
  clear n_
  have n_ := Aside0.mk (TabsE.below HT.out hb)
  clear HT
  have HT := n_
  clear n_
  clear hb
  go_wp2_with fail
  refine (T.out.s2 _ _ _ K6e K6.out ).mono ?_
  rintro e_ w8_ ⟨rfl, hb⟩
  have n_ := Aside0.mk (Kd.C_below K1.out hb)
  clear K1
  have K1 := n_
  clear n_
  have n_ := Aside0.mk (Kd.C_below K6.out hb)
  clear K6
  have K6 := n_
  clear n_
  have n_ := Aside0.mk (Kd.C_below KH.out hb)
  clear KH
  have KH := n_
  clear n_
  have n_ := Aside0.mk (Kd.C_below KI.out hb)
  clear KI
  have KI := n_
  clear n_
  have n_ := Aside0.mk (below_step HB.out hb)
  clear HB
  have HB := n_
  clear n_
  have n_ := Aside0.mk (TabsE.below HT.out hb)
  clear HT
  have HT := n_
  clear n_
  clear hb
  go_wp2_with fail
  refine (T.out.g1 _ _ _ K6e K6.out ).mono ?_
  rintro e_ w9_ ⟨AKG_, cKG_, rfl, KGe, hKG_, hb⟩
  have KG_ := Aside0.mk hKG_
  clear hKG_
  have n_ := Aside0.mk (Kd.C_below K1.out hb)
  clear K1
  have K1 := n_
  clear n_
  have n_ := Aside0.mk (Kd.C_below K6.out hb)
  clear K6
  have K6 := n_
  clear n_
  have n_ := Aside0.mk (Kd.C_below KH.out hb)
  clear KH
  have KH := n_
  clear n_
  have n_ := Aside0.mk (Kd.C_below KI.out hb)
  clear KI
  have KI := n_
  clear n_
  have n_ := Aside0.mk (below_step HB.out hb)
  clear HB
  have HB := n_
  clear n_
  have n_ := Aside0.mk (TabsE.below HT.out hb)
  clear HT
  have HT := n_
  clear n_
  clear hb
  have KG := KG_
  clear KG_
  have HE1 := Aside0.mk T.out.e1
  have HE2 := Aside0.mk T.out.e2
  have HA1 := Aside0.mk T.out.a1
  have HA2 := Aside0.mk T.out.a2
  go_upto_region 11 with (fail)
  obtain ⟨wC, rfl⟩ : ∃ wC, wC = w9_ := ⟨_, rfl⟩
  have HA0 := Aside0.mk (Below.refl wC.heap.size wC)
  go_cut [21, 22] from 597 (fun v21 v22 wc => ∃ A21 c21, v21 = .slice A21 ng c21 ∧ v22 = .bool ok ∧ ng ≤ c21 ∧ Aside0 (Kd.C (Kd.int .i64) wc A21 ng harm) ∧ Aside0 (Below wC.heap.size wC wc))
  case first =>
    clear HB HT HP HE1 HE2 HA1 HA2 HALL HDM HDA HDD HDT HDP K1 KH KI KG
    go_wp2_with fail
    refine (T.out.g2 _ _ _ K6e K6.out ).mono ?_
    rintro e_ w10_ ⟨AKS_, cKS_, rfl, KSe, hKS_, hb⟩
    have KS_ := Aside0.mk hKS_
    clear hKS_
    have n_ := Aside0.mk (Kd.C_below K6.out hb)
    clear K6
    have K6 := n_
    clear n_
    have n_ := Aside0.mk (below_step HA0.out hb)
    clear HA0
    have HA0 := n_
    clear n_
    clear hb
    have KS := KS_
    clear KS_
    clear K6
    clear T
    go_wp2
    go_meet
    case rel => exact ⟨_, _, rfl, rfl, KSe, KS, HA0⟩
  case rest =>
    obtain ⟨A21, c21, rfl, rfl, KJe, KS_, hb_⟩ := hcut
    have hb := hb_.out
    clear hb_ HA0 T
    have n_ := Aside0.mk (Kd.C_below K1.out hb)
    clear K1
    have K1 := n_
    clear n_
    have n_ := Aside0.mk (Kd.C_below K6.out hb)
    clear K6
    have K6 := n_
    clear n_
    have n_ := Aside0.mk (Kd.C_below KH.out hb)
    clear KH
    have KH := n_
    clear n_
    have n_ := Aside0.mk (Kd.C_below KI.out hb)
    clear KI
    have KI := n_
    clear n_
    have n_ := Aside0.mk (Kd.C_below KG.out hb)
    clear KG
    have KG := n_
    clear n_
    have n_ := Aside0.mk (below_step HB.out hb)
    clear HB
    have HB := n_
    clear n_
    have n_ := Aside0.mk (TabsE.below HT.out hb)
    clear HT
    have HT := n_
    clear n_
    clear hb
    have KJ := KS_
    clear KS_
    go_step
    refine mk_209 ?hq_ HB.out HT HE1 HE2 HA1 HA2 KIe KI KJe KJ HP K6e K6 KHe KH KGe KG hn110 HALL HDM HDA HDD HDT HDP K1e K1
    intro tm w' h4 hb'
    refine bodyPost_ret (results_tmp rfl tm _ _) rfl ⟨?_, hb'⟩
    exact congrArg Ending.returned h4
def laws_FnMarksDrop.Pure : Prop := True
theorem wf_u8_ {x : Int} (h : (Lit.int .u8 x).wf = true) : 0 ≤ x ∧ x ≤ 255 := by
  simp only [Lit.wf, Bool.and_eq_true, decide_eq_true_eq] at h
  have h1 : IntKind.u8.min = 0 := by decide
  have h2 : IntKind.u8.max = 255 := by decide
  omega
theorem marks_all (code more : List Int) (hlc : ∀ x ∈ code, 0 ≤ x ∧ x ≤ 255) (hlm : ∀ x ∈ more, 0 ≤ x ∧ x ≤ 255) (hbig : code.length + more.length ≤ 1048576) (A0 A1 : Option Addr) (c0 c1 : Nat) (w : World) (K0e : code.length ≤ c0) (hK0 : Kd.C (Kd.int .u8) w A0 code.length code) (K1e : more.length ≤ c1) (hK1 : Kd.C (Kd.int .u8) w A1 more.length more) (ht : TabsE w) :
    Calls Tryz.prog 3 #[.slice A0 code.length c0, .slice A1 more.length c1] w fun e w' => e = .returned (.bool true) ∧ Below w.heap.size w w' :=
  marks_law code more code.length more.length mk_all (dr2_of code hlc) (dr3_of fun W A c h1 h2 => draw_mark more hlm W A c h1 h2) (dr3_of fun W A c h1 h2 => draw_add more hlm W A c h1 h2) (dr3_of fun W A c h1 h2 => draw_drop more hlm W A c h1 h2) (dr1_of more hlm) (drS_of more hlm) (mbig_no code more hbig) A0 A1 c0 c1 w K0e hK0 K1e hK1 ht
set_option maxHeartbeats 4000000 in
set_option maxRecDepth 100000 in
theorem laws_FnMarksDrop.walk (P : laws_FnMarksDrop.Pure) (a0 : Option Addr) (len0 cap0 : Nat) (z0 : List Int) (a1 : Option Addr) (len1 cap1 : Nat) (z1 : List Int) (w : World)
    (w0 : (a0 = none ∧ len0 = 0 ∧ cap0 = 0 ∧ z0 = []) ∨ ∃ x, a0 = some x ∧ len0 ≤ cap0 ∧ cap0 ≤ maxLen ∧ z0.length = cap0 ∧ (∀ i, i < z0.length → w.cell? (x.add i) = some (.int .u8 (z0.getD i 0))) ∧ ∀ n ∈ z0, (Lit.int .u8 n).wf = true) (y0 : len0 * 1 ≤ 140737488351232)
    (w1 : (a1 = none ∧ len1 = 0 ∧ cap1 = 0 ∧ z1 = []) ∨ ∃ x, a1 = some x ∧ len1 ≤ cap1 ∧ cap1 ≤ maxLen ∧ z1.length = cap1 ∧ (∀ i, i < z1.length → w.cell? (x.add i) = some (.int .u8 (z1.getD i 0))) ∧ ∀ n ∈ z1, (Lit.int .u8 n).wf = true) (y1 : len1 * 1 ≤ 140737488351232) (ht : TabsE w) :
    Calls Tryz.prog 3 #[.slice a0 len0 cap0, .slice a1 len1 cap1] w fun e w' => e = .returned (.bool true) ∧ Below w.heap.size w w' := by
  obtain ⟨l0, rfl, hr0, hm0, hw0, hc0⟩ := ReadsInt.ofRowC w0
  obtain ⟨l1, rfl, hr1, hm1, hw1, hc1⟩ := ReadsInt.ofRowC w1
  have hC0 := Kd.C_of_reads (d := (0 : Int)) (h1 := fun _ => rfl) hr0
  have hC1 := Kd.C_of_reads (d := (0 : Int)) (h1 := fun _ => rfl) hr1
  by_cases hbig : l0.length + l1.length ≤ 1048576
  · exact marks_all l0 l1 (fun x hx => wf_u8_ (hw0 x hx)) (fun x hx => wf_u8_ (hw1 x hx)) hbig a0 a1 cap0 cap1 w hc0 hC0 hc1 hC1 ht
  · have HBIG := Aside0.mk (laws_big.calls a0 cap0 l0 a1 cap1 l1 true w hC0 hc0 hC1 hc1 (by
      unfold laws_big.f
      by_cases h : (l0.length : Int) > 1048576
      · rw [if_pos h]
      · have e_ : wrap64 (1048576 - (l0.length : Int)) = 1048576 - (l0.length : Int) := by unfold wrap64; omega
        rw [if_neg h, e_, decide_eq_true (by clear e_; omega)]))
    clear hr0 hr1 hC0 hC1 hw0 hw1 hm0 hm1 hbig
    go_enter Tryz.func3, Tryz.ntmps3
    go_wp2_with (go_at_call 4; refine (HBIG.out).mono ?_; rintro e w2_ ⟨rfl, hd⟩)
    go_ret
    exact ⟨rfl, hd.below⟩



end Go.Proofs.YtaniojfokildiaaGreatDoor.PrintA

/- The program's functions are these; part 3 (written by w.py). -/
import Derived.Test.YtfhnlkinjbakgaaGreatMsE
import Derived.Test.YtfhnlkinjbakgaaGreatMsF4
import Derived.Test.YtfhnlkinjbakgaaGreatMsQpre
import Derived.Test.YtfhnlkinjbakgaaGreatMsK1
import Derived.Test.YtfhnlkinjbakgaaGreatMsK2
set_option linter.unusedVariables false
set_option linter.unusedSimpArgs false
namespace Go.Proofs.YtfhnlkinjbakgaaGreat.Abs
open Go Go.RowKit
theorem os_DirectionAt_cut1 (a0 : I64) (a1 : I64) (r1 : Bool) (r3 : Bool) : Run Tryz.prog 223 (RvH [] (vIv ((bif (decide (a0.val < 0)) then (bif (decide ((w64 (0 - a0.val)).val > a1.val)) then (bif (decide ((w64 (0 - a0.val)).val > (w64 (0 - a1.val)).val)) then (bif (decide (a0.val < 0)) then bindP (S_TurnI (c64 (-1))) fun r6=>bindP (S_l05At a1) fun r7=>bindP (S_l05At a0) fun r8=>bindP (S_DivI r7 r8) fun r9=>bindP (S_AtanI r9) fun r10=>bindP (S_SubI r6 r10) fun r11=>r11 else bindP (S_TurnI (c64 1)) fun r12=>bindP (S_l05At a1) fun r13=>bindP (S_l05At a0) fun r14=>bindP (S_DivI r13 r14) fun r15=>bindP (S_AtanI r15) fun r16=>bindP (S_SubI r12 r16) fun r17=>r17) else (bif (decide (a1.val > 0)) then bindP (S_l05At a0) fun r18=>bindP (S_l05At a1) fun r19=>bindP (S_DivI r18 r19) fun r20=>bindP (S_AtanI r20) fun r21=>r21 else (bif (decide (a0.val < 0)) then bindP (S_l05At a0) fun r22=>bindP (S_l05At a1) fun r23=>bindP (S_DivI r22 r23) fun r24=>bindP (S_AtanI r24) fun r25=>bindP (S_TurnI (c64 (-2))) fun r26=>bindP (S_AddI r25 r26) fun r27=>r27 else bindP (S_l05At a0) fun r28=>bindP (S_l05At a1) fun r29=>bindP (S_DivI r28 r29) fun r30=>bindP (S_AtanI r30) fun r31=>bindP (S_TurnI (c64 2)) fun r32=>bindP (S_AddI r31 r32) fun r33=>r33))) else (bif (decide (a1.val > 0)) then bindP (S_l05At a0) fun r34=>bindP (S_l05At a1) fun r35=>bindP (S_DivI r34 r35) fun r36=>bindP (S_AtanI r36) fun r37=>r37 else (bif (decide (a0.val < 0)) then bindP (S_l05At a0) fun r38=>bindP (S_l05At a1) fun r39=>bindP (S_DivI r38 r39) fun r40=>bindP (S_AtanI r40) fun r41=>bindP (S_TurnI (c64 (-2))) fun r42=>bindP (S_AddI r41 r42) fun r43=>r43 else bindP (S_l05At a0) fun r44=>bindP (S_l05At a1) fun r45=>bindP (S_DivI r44 r45) fun r46=>bindP (S_AtanI r46) fun r47=>bindP (S_TurnI (c64 2)) fun r48=>bindP (S_AddI r47 r48) fun r49=>r49))) else (bif (decide (a0.val > a1.val)) then (bif (decide (a0.val > (w64 (0 - a1.val)).val)) then (bif (decide (a0.val < 0)) then bindP (S_TurnI (c64 (-1))) fun r50=>bindP (S_l05At a1) fun r51=>bindP (S_l05At a0) fun r52=>bindP (S_DivI r51 r52) fun r53=>bindP (S_AtanI r53) fun r54=>bindP (S_SubI r50 r54) fun r55=>r55 else bindP (S_TurnI (c64 1)) fun r56=>bindP (S_l05At a1) fun r57=>bindP (S_l05At a0) fun r58=>bindP (S_DivI r57 r58) fun r59=>bindP (S_AtanI r59) fun r60=>bindP (S_SubI r56 r60) fun r61=>r61) else (bif (decide (a1.val > 0)) then bindP (S_l05At a0) fun r62=>bindP (S_l05At a1) fun r63=>bindP (S_DivI r62 r63) fun r64=>bindP (S_AtanI r64) fun r65=>r65 else (bif (decide (a0.val < 0)) then bindP (S_l05At a0) fun r66=>bindP (S_l05At a1) fun r67=>bindP (S_DivI r66 r67) fun r68=>bindP (S_AtanI r68) fun r69=>bindP (S_TurnI (c64 (-2))) fun r70=>bindP (S_AddI r69 r70) fun r71=>r71 else bindP (S_l05At a0) fun r72=>bindP (S_l05At a1) fun r73=>bindP (S_DivI r72 r73) fun r74=>bindP (S_AtanI r74) fun r75=>bindP (S_TurnI (c64 2)) fun r76=>bindP (S_AddI r75 r76) fun r77=>r77))) else (bif (decide (a1.val > 0)) then bindP (S_l05At a0) fun r78=>bindP (S_l05At a1) fun r79=>bindP (S_DivI r78 r79) fun r80=>bindP (S_AtanI r80) fun r81=>r81 else (bif (decide (a0.val < 0)) then bindP (S_l05At a0) fun r82=>bindP (S_l05At a1) fun r83=>bindP (S_DivI r82 r83) fun r84=>bindP (S_AtanI r84) fun r85=>bindP (S_TurnI (c64 (-2))) fun r86=>bindP (S_AddI r85 r86) fun r87=>r87 else bindP (S_l05At a0) fun r88=>bindP (S_l05At a1) fun r89=>bindP (S_DivI r88 r89) fun r90=>bindP (S_AtanI r90) fun r91=>bindP (S_TurnI (c64 2)) fun r92=>bindP (S_AddI r91 r92) fun r93=>r93))))))) (((((((((((start Tryz.prog E Tryz.f223 400 [] #[vI a0,vI a1]).after (vB r1)).no).path [false]).after (vB r3)).path [false,false]).no).path [false,false]).yes).path [true,false,true,false]).no):=by
 refine Run.y (gv:=vIv) (fun _=>?_) (fun _=>?_)
 ·refine Run.y (gv:=vIv) (fun _=>?_) (fun _=>?_)
  ·refine Run.z [true,true,true,true] ?_
   refine Run.y (gv:=vIv) (fun _=>?_) (fun _=>?_)
   ·refine Run.y (gv:=vIv) (fun _=>?_) (fun _=>?_)
    ·refine Run.q (e:=vIv) (gv:=vIv) (os_TurnI _) fun r6 _=>?_
     refine Run.q (e:=vIv) (gv:=vIv) (os_l05At _) fun r7 _=>?_
     refine Run.q (e:=vIv) (gv:=vIv) (os_l05At _) fun r8 _=>?_
     refine Run.q (e:=vIv) (gv:=vIv) (os_DivI _ _) fun r9 _=>?_
     refine Run.q (e:=vIv) (gv:=vIv) (os_AtanI _) fun r10 _=>?_
     refine Run.q (e:=vIv) (gv:=vIv) (os_SubI _ _) fun r11 _=>?_
     exact Run.x 0
    ·refine Run.q (e:=vIv) (gv:=vIv) (os_TurnI _) fun r12 _=>?_
     refine Run.q (e:=vIv) (gv:=vIv) (os_l05At _) fun r13 _=>?_
     refine Run.q (e:=vIv) (gv:=vIv) (os_l05At _) fun r14 _=>?_
     refine Run.q (e:=vIv) (gv:=vIv) (os_DivI _ _) fun r15 _=>?_
     refine Run.q (e:=vIv) (gv:=vIv) (os_AtanI _) fun r16 _=>?_
     refine Run.q (e:=vIv) (gv:=vIv) (os_SubI _ _) fun r17 _=>?_
     exact Run.x 0
   ·refine Run.y (gv:=vIv) (fun _=>?_) (fun _=>?_)
    ·refine Run.q (e:=vIv) (gv:=vIv) (os_l05At _) fun r18 _=>?_
     refine Run.q (e:=vIv) (gv:=vIv) (os_l05At _) fun r19 _=>?_
     refine Run.q (e:=vIv) (gv:=vIv) (os_DivI _ _) fun r20 _=>?_
     refine Run.q (e:=vIv) (gv:=vIv) (os_AtanI _) fun r21 _=>?_
     exact Run.x 0
    ·refine Run.y (gv:=vIv) (fun _=>?_) (fun _=>?_)
     ·refine Run.q (e:=vIv) (gv:=vIv) (os_l05At _) fun r22 _=>?_
      refine Run.q (e:=vIv) (gv:=vIv) (os_l05At _) fun r23 _=>?_
      refine Run.q (e:=vIv) (gv:=vIv) (os_DivI _ _) fun r24 _=>?_
      refine Run.q (e:=vIv) (gv:=vIv) (os_AtanI _) fun r25 _=>?_
      refine Run.q (e:=vIv) (gv:=vIv) (os_TurnI _) fun r26 _=>?_
      refine Run.q (e:=vIv) (gv:=vIv) (os_AddI _ _) fun r27 _=>?_
      exact Run.x 0
     ·refine Run.q (e:=vIv) (gv:=vIv) (os_l05At _) fun r28 _=>?_
      refine Run.q (e:=vIv) (gv:=vIv) (os_l05At _) fun r29 _=>?_
      refine Run.q (e:=vIv) (gv:=vIv) (os_DivI _ _) fun r30 _=>?_
      refine Run.q (e:=vIv) (gv:=vIv) (os_AtanI _) fun r31 _=>?_
      refine Run.q (e:=vIv) (gv:=vIv) (os_TurnI _) fun r32 _=>?_
      refine Run.q (e:=vIv) (gv:=vIv) (os_AddI _ _) fun r33 _=>?_
      exact Run.x 0
  ·refine Run.z [false,false,false,false,false] ?_
   refine Run.y (gv:=vIv) (fun _=>?_) (fun _=>?_)
   ·refine Run.q (e:=vIv) (gv:=vIv) (os_l05At _) fun r34 _=>?_
    refine Run.q (e:=vIv) (gv:=vIv) (os_l05At _) fun r35 _=>?_
    refine Run.q (e:=vIv) (gv:=vIv) (os_DivI _ _) fun r36 _=>?_
    refine Run.q (e:=vIv) (gv:=vIv) (os_AtanI _) fun r37 _=>?_
    exact Run.x 0
   ·refine Run.y (gv:=vIv) (fun _=>?_) (fun _=>?_)
    ·refine Run.q (e:=vIv) (gv:=vIv) (os_l05At _) fun r38 _=>?_
     refine Run.q (e:=vIv) (gv:=vIv) (os_l05At _) fun r39 _=>?_
     refine Run.q (e:=vIv) (gv:=vIv) (os_DivI _ _) fun r40 _=>?_
     refine Run.q (e:=vIv) (gv:=vIv) (os_AtanI _) fun r41 _=>?_
     refine Run.q (e:=vIv) (gv:=vIv) (os_TurnI _) fun r42 _=>?_
     refine Run.q (e:=vIv) (gv:=vIv) (os_AddI _ _) fun r43 _=>?_
     exact Run.x 0
    ·refine Run.q (e:=vIv) (gv:=vIv) (os_l05At _) fun r44 _=>?_
     refine Run.q (e:=vIv) (gv:=vIv) (os_l05At _) fun r45 _=>?_
     refine Run.q (e:=vIv) (gv:=vIv) (os_DivI _ _) fun r46 _=>?_
     refine Run.q (e:=vIv) (gv:=vIv) (os_AtanI _) fun r47 _=>?_
     refine Run.q (e:=vIv) (gv:=vIv) (os_TurnI _) fun r48 _=>?_
     refine Run.q (e:=vIv) (gv:=vIv) (os_AddI _ _) fun r49 _=>?_
     exact Run.x 0
 ·refine Run.y (gv:=vIv) (fun _=>?_) (fun _=>?_)
  ·refine Run.z [true,true,true,true] ?_
   refine Run.y (gv:=vIv) (fun _=>?_) (fun _=>?_)
   ·refine Run.y (gv:=vIv) (fun _=>?_) (fun _=>?_)
    ·refine Run.q (e:=vIv) (gv:=vIv) (os_TurnI _) fun r50 _=>?_
     refine Run.q (e:=vIv) (gv:=vIv) (os_l05At _) fun r51 _=>?_
     refine Run.q (e:=vIv) (gv:=vIv) (os_l05At _) fun r52 _=>?_
     refine Run.q (e:=vIv) (gv:=vIv) (os_DivI _ _) fun r53 _=>?_
     refine Run.q (e:=vIv) (gv:=vIv) (os_AtanI _) fun r54 _=>?_
     refine Run.q (e:=vIv) (gv:=vIv) (os_SubI _ _) fun r55 _=>?_
     exact Run.x 0
    ·refine Run.q (e:=vIv) (gv:=vIv) (os_TurnI _) fun r56 _=>?_
     refine Run.q (e:=vIv) (gv:=vIv) (os_l05At _) fun r57 _=>?_
     refine Run.q (e:=vIv) (gv:=vIv) (os_l05At _) fun r58 _=>?_
     refine Run.q (e:=vIv) (gv:=vIv) (os_DivI _ _) fun r59 _=>?_
     refine Run.q (e:=vIv) (gv:=vIv) (os_AtanI _) fun r60 _=>?_
     refine Run.q (e:=vIv) (gv:=vIv) (os_SubI _ _) fun r61 _=>?_
     exact Run.x 0
   ·refine Run.y (gv:=vIv) (fun _=>?_) (fun _=>?_)
    ·refine Run.q (e:=vIv) (gv:=vIv) (os_l05At _) fun r62 _=>?_
     refine Run.q (e:=vIv) (gv:=vIv) (os_l05At _) fun r63 _=>?_
     refine Run.q (e:=vIv) (gv:=vIv) (os_DivI _ _) fun r64 _=>?_
     refine Run.q (e:=vIv) (gv:=vIv) (os_AtanI _) fun r65 _=>?_
     exact Run.x 0
    ·refine Run.y (gv:=vIv) (fun _=>?_) (fun _=>?_)
     ·refine Run.q (e:=vIv) (gv:=vIv) (os_l05At _) fun r66 _=>?_
      refine Run.q (e:=vIv) (gv:=vIv) (os_l05At _) fun r67 _=>?_
      refine Run.q (e:=vIv) (gv:=vIv) (os_DivI _ _) fun r68 _=>?_
      refine Run.q (e:=vIv) (gv:=vIv) (os_AtanI _) fun r69 _=>?_
      refine Run.q (e:=vIv) (gv:=vIv) (os_TurnI _) fun r70 _=>?_
      refine Run.q (e:=vIv) (gv:=vIv) (os_AddI _ _) fun r71 _=>?_
      exact Run.x 0
     ·refine Run.q (e:=vIv) (gv:=vIv) (os_l05At _) fun r72 _=>?_
      refine Run.q (e:=vIv) (gv:=vIv) (os_l05At _) fun r73 _=>?_
      refine Run.q (e:=vIv) (gv:=vIv) (os_DivI _ _) fun r74 _=>?_
      refine Run.q (e:=vIv) (gv:=vIv) (os_AtanI _) fun r75 _=>?_
      refine Run.q (e:=vIv) (gv:=vIv) (os_TurnI _) fun r76 _=>?_
      refine Run.q (e:=vIv) (gv:=vIv) (os_AddI _ _) fun r77 _=>?_
      exact Run.x 0
  ·refine Run.z [false,false,false,false,false] ?_
   refine Run.y (gv:=vIv) (fun _=>?_) (fun _=>?_)
   ·refine Run.q (e:=vIv) (gv:=vIv) (os_l05At _) fun r78 _=>?_
    refine Run.q (e:=vIv) (gv:=vIv) (os_l05At _) fun r79 _=>?_
    refine Run.q (e:=vIv) (gv:=vIv) (os_DivI _ _) fun r80 _=>?_
    refine Run.q (e:=vIv) (gv:=vIv) (os_AtanI _) fun r81 _=>?_
    exact Run.x 0
   ·refine Run.y (gv:=vIv) (fun _=>?_) (fun _=>?_)
    ·refine Run.q (e:=vIv) (gv:=vIv) (os_l05At _) fun r82 _=>?_
     refine Run.q (e:=vIv) (gv:=vIv) (os_l05At _) fun r83 _=>?_
     refine Run.q (e:=vIv) (gv:=vIv) (os_DivI _ _) fun r84 _=>?_
     refine Run.q (e:=vIv) (gv:=vIv) (os_AtanI _) fun r85 _=>?_
     refine Run.q (e:=vIv) (gv:=vIv) (os_TurnI _) fun r86 _=>?_
     refine Run.q (e:=vIv) (gv:=vIv) (os_AddI _ _) fun r87 _=>?_
     exact Run.x 0
    ·refine Run.q (e:=vIv) (gv:=vIv) (os_l05At _) fun r88 _=>?_
     refine Run.q (e:=vIv) (gv:=vIv) (os_l05At _) fun r89 _=>?_
     refine Run.q (e:=vIv) (gv:=vIv) (os_DivI _ _) fun r90 _=>?_
     refine Run.q (e:=vIv) (gv:=vIv) (os_AtanI _) fun r91 _=>?_
     refine Run.q (e:=vIv) (gv:=vIv) (os_TurnI _) fun r92 _=>?_
     refine Run.q (e:=vIv) (gv:=vIv) (os_AddI _ _) fun r93 _=>?_
     exact Run.x 0
theorem os_DirectionAt_cut2 (a0 : I64) (a1 : I64) (r1 : Bool) (r3 : Bool) : Run Tryz.prog 223 (RvH [] (vIv ((bif (decide (a0.val < 0)) then (bif (decide ((w64 (0 - a0.val)).val > a1.val)) then (bif (decide ((w64 (0 - a0.val)).val > (w64 (0 - a1.val)).val)) then (bif (decide (a0.val < 0)) then bindP (S_TurnI (c64 (-1))) fun r94=>bindP (S_l05At a1) fun r95=>bindP (S_l05At a0) fun r96=>bindP (S_DivI r95 r96) fun r97=>bindP (S_AtanI r97) fun r98=>bindP (S_SubI r94 r98) fun r99=>r99 else bindP (S_TurnI (c64 1)) fun r100=>bindP (S_l05At a1) fun r101=>bindP (S_l05At a0) fun r102=>bindP (S_DivI r101 r102) fun r103=>bindP (S_AtanI r103) fun r104=>bindP (S_SubI r100 r104) fun r105=>r105) else (bif (decide (a1.val > 0)) then bindP (S_l05At a0) fun r106=>bindP (S_l05At a1) fun r107=>bindP (S_DivI r106 r107) fun r108=>bindP (S_AtanI r108) fun r109=>r109 else (bif (decide (a0.val < 0)) then bindP (S_l05At a0) fun r110=>bindP (S_l05At a1) fun r111=>bindP (S_DivI r110 r111) fun r112=>bindP (S_AtanI r112) fun r113=>bindP (S_TurnI (c64 (-2))) fun r114=>bindP (S_AddI r113 r114) fun r115=>r115 else bindP (S_l05At a0) fun r116=>bindP (S_l05At a1) fun r117=>bindP (S_DivI r116 r117) fun r118=>bindP (S_AtanI r118) fun r119=>bindP (S_TurnI (c64 2)) fun r120=>bindP (S_AddI r119 r120) fun r121=>r121))) else (bif (decide (a1.val > 0)) then bindP (S_l05At a0) fun r122=>bindP (S_l05At a1) fun r123=>bindP (S_DivI r122 r123) fun r124=>bindP (S_AtanI r124) fun r125=>r125 else (bif (decide (a0.val < 0)) then bindP (S_l05At a0) fun r126=>bindP (S_l05At a1) fun r127=>bindP (S_DivI r126 r127) fun r128=>bindP (S_AtanI r128) fun r129=>bindP (S_TurnI (c64 (-2))) fun r130=>bindP (S_AddI r129 r130) fun r131=>r131 else bindP (S_l05At a0) fun r132=>bindP (S_l05At a1) fun r133=>bindP (S_DivI r132 r133) fun r134=>bindP (S_AtanI r134) fun r135=>bindP (S_TurnI (c64 2)) fun r136=>bindP (S_AddI r135 r136) fun r137=>r137))) else (bif (decide (a0.val > a1.val)) then (bif (decide (a0.val > (w64 (0 - a1.val)).val)) then (bif (decide (a0.val < 0)) then bindP (S_TurnI (c64 (-1))) fun r138=>bindP (S_l05At a1) fun r139=>bindP (S_l05At a0) fun r140=>bindP (S_DivI r139 r140) fun r141=>bindP (S_AtanI r141) fun r142=>bindP (S_SubI r138 r142) fun r143=>r143 else bindP (S_TurnI (c64 1)) fun r144=>bindP (S_l05At a1) fun r145=>bindP (S_l05At a0) fun r146=>bindP (S_DivI r145 r146) fun r147=>bindP (S_AtanI r147) fun r148=>bindP (S_SubI r144 r148) fun r149=>r149) else (bif (decide (a1.val > 0)) then bindP (S_l05At a0) fun r150=>bindP (S_l05At a1) fun r151=>bindP (S_DivI r150 r151) fun r152=>bindP (S_AtanI r152) fun r153=>r153 else (bif (decide (a0.val < 0)) then bindP (S_l05At a0) fun r154=>bindP (S_l05At a1) fun r155=>bindP (S_DivI r154 r155) fun r156=>bindP (S_AtanI r156) fun r157=>bindP (S_TurnI (c64 (-2))) fun r158=>bindP (S_AddI r157 r158) fun r159=>r159 else bindP (S_l05At a0) fun r160=>bindP (S_l05At a1) fun r161=>bindP (S_DivI r160 r161) fun r162=>bindP (S_AtanI r162) fun r163=>bindP (S_TurnI (c64 2)) fun r164=>bindP (S_AddI r163 r164) fun r165=>r165))) else (bif (decide (a1.val > 0)) then bindP (S_l05At a0) fun r166=>bindP (S_l05At a1) fun r167=>bindP (S_DivI r166 r167) fun r168=>bindP (S_AtanI r168) fun r169=>r169 else (bif (decide (a0.val < 0)) then bindP (S_l05At a0) fun r170=>bindP (S_l05At a1) fun r171=>bindP (S_DivI r170 r171) fun r172=>bindP (S_AtanI r172) fun r173=>bindP (S_TurnI (c64 (-2))) fun r174=>bindP (S_AddI r173 r174) fun r175=>r175 else bindP (S_l05At a0) fun r176=>bindP (S_l05At a1) fun r177=>bindP (S_DivI r176 r177) fun r178=>bindP (S_AtanI r178) fun r179=>bindP (S_TurnI (c64 2)) fun r180=>bindP (S_AddI r179 r180) fun r181=>r181))))))) (((((((((start Tryz.prog E Tryz.f223 400 [] #[vI a0,vI a1]).after (vB r1)).no).path [false]).after (vB r3)).path [false,false]).no).path [false,false]).no):=by
 refine Run.z [false,false,false,false,false] ?_
 refine Run.y (gv:=vIv) (fun _=>?_) (fun _=>?_)
 ·refine Run.y (gv:=vIv) (fun _=>?_) (fun _=>?_)
  ·refine Run.z [true,true,true,true] ?_
   refine Run.y (gv:=vIv) (fun _=>?_) (fun _=>?_)
   ·refine Run.y (gv:=vIv) (fun _=>?_) (fun _=>?_)
    ·refine Run.q (e:=vIv) (gv:=vIv) (os_TurnI _) fun r94 _=>?_
     refine Run.q (e:=vIv) (gv:=vIv) (os_l05At _) fun r95 _=>?_
     refine Run.q (e:=vIv) (gv:=vIv) (os_l05At _) fun r96 _=>?_
     refine Run.q (e:=vIv) (gv:=vIv) (os_DivI _ _) fun r97 _=>?_
     refine Run.q (e:=vIv) (gv:=vIv) (os_AtanI _) fun r98 _=>?_
     refine Run.q (e:=vIv) (gv:=vIv) (os_SubI _ _) fun r99 _=>?_
     exact Run.x 0
    ·refine Run.q (e:=vIv) (gv:=vIv) (os_TurnI _) fun r100 _=>?_
     refine Run.q (e:=vIv) (gv:=vIv) (os_l05At _) fun r101 _=>?_
     refine Run.q (e:=vIv) (gv:=vIv) (os_l05At _) fun r102 _=>?_
     refine Run.q (e:=vIv) (gv:=vIv) (os_DivI _ _) fun r103 _=>?_
     refine Run.q (e:=vIv) (gv:=vIv) (os_AtanI _) fun r104 _=>?_
     refine Run.q (e:=vIv) (gv:=vIv) (os_SubI _ _) fun r105 _=>?_
     exact Run.x 0
   ·refine Run.y (gv:=vIv) (fun _=>?_) (fun _=>?_)
    ·refine Run.q (e:=vIv) (gv:=vIv) (os_l05At _) fun r106 _=>?_
     refine Run.q (e:=vIv) (gv:=vIv) (os_l05At _) fun r107 _=>?_
     refine Run.q (e:=vIv) (gv:=vIv) (os_DivI _ _) fun r108 _=>?_
     refine Run.q (e:=vIv) (gv:=vIv) (os_AtanI _) fun r109 _=>?_
     exact Run.x 0
    ·refine Run.y (gv:=vIv) (fun _=>?_) (fun _=>?_)
     ·refine Run.q (e:=vIv) (gv:=vIv) (os_l05At _) fun r110 _=>?_
      refine Run.q (e:=vIv) (gv:=vIv) (os_l05At _) fun r111 _=>?_
      refine Run.q (e:=vIv) (gv:=vIv) (os_DivI _ _) fun r112 _=>?_
      refine Run.q (e:=vIv) (gv:=vIv) (os_AtanI _) fun r113 _=>?_
      refine Run.q (e:=vIv) (gv:=vIv) (os_TurnI _) fun r114 _=>?_
      refine Run.q (e:=vIv) (gv:=vIv) (os_AddI _ _) fun r115 _=>?_
      exact Run.x 0
     ·refine Run.q (e:=vIv) (gv:=vIv) (os_l05At _) fun r116 _=>?_
      refine Run.q (e:=vIv) (gv:=vIv) (os_l05At _) fun r117 _=>?_
      refine Run.q (e:=vIv) (gv:=vIv) (os_DivI _ _) fun r118 _=>?_
      refine Run.q (e:=vIv) (gv:=vIv) (os_AtanI _) fun r119 _=>?_
      refine Run.q (e:=vIv) (gv:=vIv) (os_TurnI _) fun r120 _=>?_
      refine Run.q (e:=vIv) (gv:=vIv) (os_AddI _ _) fun r121 _=>?_
      exact Run.x 0
  ·refine Run.z [false,false,false,false,false] ?_
   refine Run.y (gv:=vIv) (fun _=>?_) (fun _=>?_)
   ·refine Run.q (e:=vIv) (gv:=vIv) (os_l05At _) fun r122 _=>?_
    refine Run.q (e:=vIv) (gv:=vIv) (os_l05At _) fun r123 _=>?_
    refine Run.q (e:=vIv) (gv:=vIv) (os_DivI _ _) fun r124 _=>?_
    refine Run.q (e:=vIv) (gv:=vIv) (os_AtanI _) fun r125 _=>?_
    exact Run.x 0
   ·refine Run.y (gv:=vIv) (fun _=>?_) (fun _=>?_)
    ·refine Run.q (e:=vIv) (gv:=vIv) (os_l05At _) fun r126 _=>?_
     refine Run.q (e:=vIv) (gv:=vIv) (os_l05At _) fun r127 _=>?_
     refine Run.q (e:=vIv) (gv:=vIv) (os_DivI _ _) fun r128 _=>?_
     refine Run.q (e:=vIv) (gv:=vIv) (os_AtanI _) fun r129 _=>?_
     refine Run.q (e:=vIv) (gv:=vIv) (os_TurnI _) fun r130 _=>?_
     refine Run.q (e:=vIv) (gv:=vIv) (os_AddI _ _) fun r131 _=>?_
     exact Run.x 0
    ·refine Run.q (e:=vIv) (gv:=vIv) (os_l05At _) fun r132 _=>?_
     refine Run.q (e:=vIv) (gv:=vIv) (os_l05At _) fun r133 _=>?_
     refine Run.q (e:=vIv) (gv:=vIv) (os_DivI _ _) fun r134 _=>?_
     refine Run.q (e:=vIv) (gv:=vIv) (os_AtanI _) fun r135 _=>?_
     refine Run.q (e:=vIv) (gv:=vIv) (os_TurnI _) fun r136 _=>?_
     refine Run.q (e:=vIv) (gv:=vIv) (os_AddI _ _) fun r137 _=>?_
     exact Run.x 0
 ·refine Run.y (gv:=vIv) (fun _=>?_) (fun _=>?_)
  ·refine Run.z [true,true,true,true] ?_
   refine Run.y (gv:=vIv) (fun _=>?_) (fun _=>?_)
   ·refine Run.y (gv:=vIv) (fun _=>?_) (fun _=>?_)
    ·refine Run.q (e:=vIv) (gv:=vIv) (os_TurnI _) fun r138 _=>?_
     refine Run.q (e:=vIv) (gv:=vIv) (os_l05At _) fun r139 _=>?_
     refine Run.q (e:=vIv) (gv:=vIv) (os_l05At _) fun r140 _=>?_
     refine Run.q (e:=vIv) (gv:=vIv) (os_DivI _ _) fun r141 _=>?_
     refine Run.q (e:=vIv) (gv:=vIv) (os_AtanI _) fun r142 _=>?_
     refine Run.q (e:=vIv) (gv:=vIv) (os_SubI _ _) fun r143 _=>?_
     exact Run.x 0
    ·refine Run.q (e:=vIv) (gv:=vIv) (os_TurnI _) fun r144 _=>?_
     refine Run.q (e:=vIv) (gv:=vIv) (os_l05At _) fun r145 _=>?_
     refine Run.q (e:=vIv) (gv:=vIv) (os_l05At _) fun r146 _=>?_
     refine Run.q (e:=vIv) (gv:=vIv) (os_DivI _ _) fun r147 _=>?_
     refine Run.q (e:=vIv) (gv:=vIv) (os_AtanI _) fun r148 _=>?_
     refine Run.q (e:=vIv) (gv:=vIv) (os_SubI _ _) fun r149 _=>?_
     exact Run.x 0
   ·refine Run.y (gv:=vIv) (fun _=>?_) (fun _=>?_)
    ·refine Run.q (e:=vIv) (gv:=vIv) (os_l05At _) fun r150 _=>?_
     refine Run.q (e:=vIv) (gv:=vIv) (os_l05At _) fun r151 _=>?_
     refine Run.q (e:=vIv) (gv:=vIv) (os_DivI _ _) fun r152 _=>?_
     refine Run.q (e:=vIv) (gv:=vIv) (os_AtanI _) fun r153 _=>?_
     exact Run.x 0
    ·refine Run.y (gv:=vIv) (fun _=>?_) (fun _=>?_)
     ·refine Run.q (e:=vIv) (gv:=vIv) (os_l05At _) fun r154 _=>?_
      refine Run.q (e:=vIv) (gv:=vIv) (os_l05At _) fun r155 _=>?_
      refine Run.q (e:=vIv) (gv:=vIv) (os_DivI _ _) fun r156 _=>?_
      refine Run.q (e:=vIv) (gv:=vIv) (os_AtanI _) fun r157 _=>?_
      refine Run.q (e:=vIv) (gv:=vIv) (os_TurnI _) fun r158 _=>?_
      refine Run.q (e:=vIv) (gv:=vIv) (os_AddI _ _) fun r159 _=>?_
      exact Run.x 0
     ·refine Run.q (e:=vIv) (gv:=vIv) (os_l05At _) fun r160 _=>?_
      refine Run.q (e:=vIv) (gv:=vIv) (os_l05At _) fun r161 _=>?_
      refine Run.q (e:=vIv) (gv:=vIv) (os_DivI _ _) fun r162 _=>?_
      refine Run.q (e:=vIv) (gv:=vIv) (os_AtanI _) fun r163 _=>?_
      refine Run.q (e:=vIv) (gv:=vIv) (os_TurnI _) fun r164 _=>?_
      refine Run.q (e:=vIv) (gv:=vIv) (os_AddI _ _) fun r165 _=>?_
      exact Run.x 0
  ·refine Run.z [false,false,false,false,false] ?_
   refine Run.y (gv:=vIv) (fun _=>?_) (fun _=>?_)
   ·refine Run.q (e:=vIv) (gv:=vIv) (os_l05At _) fun r166 _=>?_
    refine Run.q (e:=vIv) (gv:=vIv) (os_l05At _) fun r167 _=>?_
    refine Run.q (e:=vIv) (gv:=vIv) (os_DivI _ _) fun r168 _=>?_
    refine Run.q (e:=vIv) (gv:=vIv) (os_AtanI _) fun r169 _=>?_
    exact Run.x 0
   ·refine Run.y (gv:=vIv) (fun _=>?_) (fun _=>?_)
    ·refine Run.q (e:=vIv) (gv:=vIv) (os_l05At _) fun r170 _=>?_
     refine Run.q (e:=vIv) (gv:=vIv) (os_l05At _) fun r171 _=>?_
     refine Run.q (e:=vIv) (gv:=vIv) (os_DivI _ _) fun r172 _=>?_
     refine Run.q (e:=vIv) (gv:=vIv) (os_AtanI _) fun r173 _=>?_
     refine Run.q (e:=vIv) (gv:=vIv) (os_TurnI _) fun r174 _=>?_
     refine Run.q (e:=vIv) (gv:=vIv) (os_AddI _ _) fun r175 _=>?_
     exact Run.x 0
    ·refine Run.q (e:=vIv) (gv:=vIv) (os_l05At _) fun r176 _=>?_
     refine Run.q (e:=vIv) (gv:=vIv) (os_l05At _) fun r177 _=>?_
     refine Run.q (e:=vIv) (gv:=vIv) (os_DivI _ _) fun r178 _=>?_
     refine Run.q (e:=vIv) (gv:=vIv) (os_AtanI _) fun r179 _=>?_
     refine Run.q (e:=vIv) (gv:=vIv) (os_TurnI _) fun r180 _=>?_
     refine Run.q (e:=vIv) (gv:=vIv) (os_AddI _ _) fun r181 _=>?_
     exact Run.x 0
theorem os_DirectionAt (a0 : I64) (a1 : I64) : Fun Tryz.prog 223 [] #[vI a0,vI a1] (vIv (S_DirectionAt a0 a1)) []:=by
 refine Fun.ofH 400 E_ok mixed Tryz.func223 (by kernel_rfl) (by kernel_rfl) ?_
 unfold S_DirectionAt
 refine Run.q (e:=vB) (gv:=vIv) (os_l07Fix _) fun r1 _=>?_
 refine Run.y (gv:=vIv) (fun _=>?_) (fun _=>?_)
 ·refine Run.z [true,true,true,true,true,true,true,true,true] ?_
  refine Run.q (e:=vIv) (gv:=vIv) (os_Whole) fun r2 _=>?_
  exact Run.x 0
 ·refine Run.z [false] ?_
  refine Run.q (e:=vB) (gv:=vIv) (os_l07Fix _) fun r3 _=>?_
  refine Run.z [false,false] ?_
  refine Run.y (gv:=vIv) (fun _=>?_) (fun _=>?_)
  ·refine Run.z [true,true,true,true,true] ?_
   refine Run.q (e:=vIv) (gv:=vIv) (os_Whole) fun r4 _=>?_
   exact Run.x 0
  ·refine Run.z [false,false] ?_
   refine Run.y (gv:=vIv) (fun _=>?_) (fun _=>?_)
   ·refine Run.z [true,false,true,false] ?_
    refine Run.y (gv:=vIv) (fun _=>?_) (fun _=>?_)
    ·refine Run.q (e:=vIv) (gv:=vIv) (os_Whole) fun r5 _=>?_
     exact Run.x 0
    ·exact os_DirectionAt_cut1 a0 a1 r1 r3
   ·exact os_DirectionAt_cut2 a0 a1 r1 r3
theorem os_DirectionI (a0 : Iv) (a1 : Iv) : Fun Tryz.prog 159 [] #[vIv a0,vIv a1] (vIv (S_DirectionI a0 a1)) []:=by
 refine Fun.ofH 400 E_ok mixed Tryz.func159 (by kernel_rfl) (by kernel_rfl) ?_
 unfold S_DirectionI
 refine Run.q (e:=vB) (gv:=vIv) (os_IsWhole _) fun r1 _=>?_
 refine Run.y (gv:=vIv) (fun _=>?_) (fun _=>?_)
 ·refine Run.z [true,true,true,true,true,true,true,true,true,true,true,true,true,true,true,true] ?_
  refine Run.q (e:=vIv) (gv:=vIv) (os_Whole) fun r2 _=>?_
  exact Run.x 0
 ·refine Run.z [false] ?_
  refine Run.q (e:=vB) (gv:=vIv) (os_IsWhole _) fun r3 _=>?_
  refine Run.z [false] ?_
  refine Run.y (gv:=vIv) (fun _=>?_) (fun _=>?_)
  ·refine Run.z [true,true,true,true,true,true,true,true,true,true,true,true,true] ?_
   refine Run.q (e:=vIv) (gv:=vIv) (os_Whole) fun r4 _=>?_
   exact Run.x 0
  ·refine Run.z [false] ?_
   refine Run.q (e:=vB) (gv:=vIv) (os_HasI _ _) fun r5 _=>?_
   refine Run.z [false] ?_
   refine Run.y (gv:=vIv) (fun _=>?_) (fun _=>?_)
   ·refine Run.z [true] ?_
    refine Run.q (e:=vB) (gv:=vIv) (os_HasI _ _) fun r6 _=>?_
    refine Run.z [false,true,false] ?_
    refine Run.y (gv:=vIv) (fun _=>?_) (fun _=>?_)
    ·refine Run.z [true,true,true,true,true,true,true,true] ?_
     refine Run.q (e:=vIv) (gv:=vIv) (os_Whole) fun r7 _=>?_
     exact Run.x 0
    ·refine Run.z [false,false,false] ?_
     refine Run.y (gv:=vIv) (fun _=>?_) (fun _=>?_)
     ·refine Run.z [true,true,false,true,false] ?_
      refine Run.y (gv:=vIv) (fun _=>?_) (fun _=>?_)
      ·refine Run.z [true,true,false,true,false] ?_
       refine Run.y (gv:=vIv) (fun _=>?_) (fun _=>?_)
       ·refine Run.q (e:=vIv) (gv:=vIv) (os_Whole) fun r8 _=>?_
        exact Run.x 0
       ·refine Run.q (e:=vIv) (gv:=vIv) (os_DirectionAt _ _) fun r9 _=>?_
        refine Run.q (e:=vIv) (gv:=vIv) (os_DirectionAt _ _) fun r10 _=>?_
        refine Run.q (e:=vIv) (gv:=vIv) (os_HullI _ _) fun r11 _=>?_
        refine Run.q (e:=vIv) (gv:=vIv) (os_DirectionAt _ _) fun r12 _=>?_
        refine Run.q (e:=vIv) (gv:=vIv) (os_DirectionAt _ _) fun r13 _=>?_
        refine Run.q (e:=vIv) (gv:=vIv) (os_HullI _ _) fun r14 _=>?_
        refine Run.q (e:=vIv) (gv:=vIv) (os_HullI _ _) fun r15 _=>?_
        exact Run.x 0
      ·refine Run.z [false,false,false,false,false,false] ?_
       refine Run.q (e:=vIv) (gv:=vIv) (os_DirectionAt _ _) fun r16 _=>?_
       refine Run.q (e:=vIv) (gv:=vIv) (os_DirectionAt _ _) fun r17 _=>?_
       refine Run.q (e:=vIv) (gv:=vIv) (os_HullI _ _) fun r18 _=>?_
       refine Run.q (e:=vIv) (gv:=vIv) (os_DirectionAt _ _) fun r19 _=>?_
       refine Run.q (e:=vIv) (gv:=vIv) (os_DirectionAt _ _) fun r20 _=>?_
       refine Run.q (e:=vIv) (gv:=vIv) (os_HullI _ _) fun r21 _=>?_
       refine Run.q (e:=vIv) (gv:=vIv) (os_HullI _ _) fun r22 _=>?_
       exact Run.x 0
     ·refine Run.z [false,false,false,false,false,false,false,false,false,false,false,false] ?_
      refine Run.q (e:=vIv) (gv:=vIv) (os_DirectionAt _ _) fun r23 _=>?_
      refine Run.q (e:=vIv) (gv:=vIv) (os_DirectionAt _ _) fun r24 _=>?_
      refine Run.q (e:=vIv) (gv:=vIv) (os_HullI _ _) fun r25 _=>?_
      refine Run.q (e:=vIv) (gv:=vIv) (os_DirectionAt _ _) fun r26 _=>?_
      refine Run.q (e:=vIv) (gv:=vIv) (os_DirectionAt _ _) fun r27 _=>?_
      refine Run.q (e:=vIv) (gv:=vIv) (os_HullI _ _) fun r28 _=>?_
      refine Run.q (e:=vIv) (gv:=vIv) (os_HullI _ _) fun r29 _=>?_
      exact Run.x 0
   ·refine Run.z [false,false,false,false,false,false,false,false] ?_
    refine Run.y (gv:=vIv) (fun _=>?_) (fun _=>?_)
    ·refine Run.z [true,true,false,true,false] ?_
     refine Run.y (gv:=vIv) (fun _=>?_) (fun _=>?_)
     ·refine Run.z [true,true,false,true,false] ?_
      refine Run.y (gv:=vIv) (fun _=>?_) (fun _=>?_)
      ·refine Run.q (e:=vIv) (gv:=vIv) (os_Whole) fun r30 _=>?_
       exact Run.x 0
      ·refine Run.q (e:=vIv) (gv:=vIv) (os_DirectionAt _ _) fun r31 _=>?_
       refine Run.q (e:=vIv) (gv:=vIv) (os_DirectionAt _ _) fun r32 _=>?_
       refine Run.q (e:=vIv) (gv:=vIv) (os_HullI _ _) fun r33 _=>?_
       refine Run.q (e:=vIv) (gv:=vIv) (os_DirectionAt _ _) fun r34 _=>?_
       refine Run.q (e:=vIv) (gv:=vIv) (os_DirectionAt _ _) fun r35 _=>?_
       refine Run.q (e:=vIv) (gv:=vIv) (os_HullI _ _) fun r36 _=>?_
       refine Run.q (e:=vIv) (gv:=vIv) (os_HullI _ _) fun r37 _=>?_
       exact Run.x 0
     ·refine Run.z [false,false,false,false,false,false] ?_
      refine Run.q (e:=vIv) (gv:=vIv) (os_DirectionAt _ _) fun r38 _=>?_
      refine Run.q (e:=vIv) (gv:=vIv) (os_DirectionAt _ _) fun r39 _=>?_
      refine Run.q (e:=vIv) (gv:=vIv) (os_HullI _ _) fun r40 _=>?_
      refine Run.q (e:=vIv) (gv:=vIv) (os_DirectionAt _ _) fun r41 _=>?_
      refine Run.q (e:=vIv) (gv:=vIv) (os_DirectionAt _ _) fun r42 _=>?_
      refine Run.q (e:=vIv) (gv:=vIv) (os_HullI _ _) fun r43 _=>?_
      refine Run.q (e:=vIv) (gv:=vIv) (os_HullI _ _) fun r44 _=>?_
      exact Run.x 0
    ·refine Run.z [false,false,false,false,false,false,false,false,false,false,false,false] ?_
     refine Run.q (e:=vIv) (gv:=vIv) (os_DirectionAt _ _) fun r45 _=>?_
     refine Run.q (e:=vIv) (gv:=vIv) (os_DirectionAt _ _) fun r46 _=>?_
     refine Run.q (e:=vIv) (gv:=vIv) (os_HullI _ _) fun r47 _=>?_
     refine Run.q (e:=vIv) (gv:=vIv) (os_DirectionAt _ _) fun r48 _=>?_
     refine Run.q (e:=vIv) (gv:=vIv) (os_DirectionAt _ _) fun r49 _=>?_
     refine Run.q (e:=vIv) (gv:=vIv) (os_HullI _ _) fun r50 _=>?_
     refine Run.q (e:=vIv) (gv:=vIv) (os_HullI _ _) fun r51 _=>?_
     exact Run.x 0
theorem os_FromCartesian (a0 : El) (a1 : Vc) : Fun Tryz.prog 75 [] #[vEl a0,vVc a1] (vT_Iv_Iv_Iv_I (S_FromCartesian a0 a1)) []:=by
 refine Fun.ofH 400 E_ok mixed Tryz.func75 (by kernel_rfl) (by kernel_rfl) ?_
 unfold S_FromCartesian
 refine Run.q (e:=vI) (gv:=vT_Iv_Iv_Iv_I) (os_l14Far _ _) fun r1 _=>?_
 refine Run.y (gv:=vT_Iv_Iv_Iv_I) (fun _=>?_) (fun _=>?_)
 ·exact Run.x 0
 ·refine Run.q (e:=vIv) (gv:=vT_Iv_Iv_Iv_I) (os_l14Lat _ _) fun r2 _=>?_
  refine Run.q (e:=vIv) (gv:=vT_Iv_Iv_Iv_I) (os_SinI _) fun r3 _=>?_
  refine Run.q (e:=vIv) (gv:=vT_Iv_Iv_Iv_I) (os_Integer _) fun r4 _=>?_
  refine Run.q (e:=vIv) (gv:=vT_Iv_Iv_Iv_I) (os_EccI _) fun r5 _=>?_
  refine Run.q (e:=vIv) (gv:=vT_Iv_Iv_Iv_I) (os_SqrI _) fun r6 _=>?_
  refine Run.q (e:=vIv) (gv:=vT_Iv_Iv_Iv_I) (os_MulI _ _) fun r7 _=>?_
  refine Run.q (e:=vIv) (gv:=vT_Iv_Iv_Iv_I) (os_SubI _ _) fun r8 _=>?_
  refine Run.q (e:=vIv) (gv:=vT_Iv_Iv_Iv_I) (os_SqrtI _) fun r9 _=>?_
  refine Run.q (e:=vIv) (gv:=vT_Iv_Iv_Iv_I) (os_l15Flat _) fun r10 _=>?_
  refine Run.q (e:=vIv) (gv:=vT_Iv_Iv_Iv_I) (os_CosI _) fun r11 _=>?_
  refine Run.q (e:=vIv) (gv:=vT_Iv_Iv_Iv_I) (os_MulI _ _) fun r12 _=>?_
  refine Run.q (e:=vIv) (gv:=vT_Iv_Iv_Iv_I) (os_MulI _ _) fun r13 _=>?_
  refine Run.q (e:=vIv) (gv:=vT_Iv_Iv_Iv_I) (os_AddI _ _) fun r14 _=>?_
  refine Run.q (e:=vIv) (gv:=vT_Iv_Iv_Iv_I) (os_MajorI _) fun r15 _=>?_
  refine Run.q (e:=vIv) (gv:=vT_Iv_Iv_Iv_I) (os_MulI _ _) fun r16 _=>?_
  refine Run.q (e:=vIv) (gv:=vT_Iv_Iv_Iv_I) (os_SubI _ _) fun r17 _=>?_
  refine Run.q (e:=vB) (gv:=vT_Iv_Iv_Iv_I) (os_IsWhole _) fun r18 _=>?_
  refine Run.y (gv:=vT_Iv_Iv_Iv_I) (fun _=>?_) (fun _=>?_)
  ·exact Run.x 0
  ·refine Run.q (e:=vIv) (gv:=vT_Iv_Iv_Iv_I) (os_DirectionI _ _) fun r19 _=>?_
   exact Run.x 0
theorem os_MovePlace (a0 : El) (a1 : Sf) (a2 : El) (a3 : Pl) : Fun Tryz.prog 21 [] #[vEl a0,vSf a1,vEl a2,vPl a3] (vT_Iv_Iv_Iv_I (S_MovePlace a0 a1 a2 a3)) []:=by
 refine Fun.ofH 400 E_ok mixed Tryz.func21 (by kernel_rfl) (by kernel_rfl) ?_
 unfold S_MovePlace
 refine Run.q (e:=vB) (gv:=vT_Iv_Iv_Iv_I) (os_ValidEllipsoid _) fun r1 _=>?_
 refine Run.y (gv:=vT_Iv_Iv_Iv_I) (fun _=>?_) (fun _=>?_)
 ·refine Run.z [true,true,true,true,true,true,true,true,true,true] ?_
  exact Run.x 0
 ·refine Run.w (e:=vB) (gv:=vT_Iv_Iv_Iv_I) [1] (os_l23Ok__pSf _) fun r2 _=>?_
  refine Run.z [false,false] ?_
  refine Run.y (gv:=vT_Iv_Iv_Iv_I) (fun _=>?_) (fun _=>?_)
  ·refine Run.z [true,true,true,true,true,true,true] ?_
   exact Run.x 0
  ·refine Run.z [false] ?_
   refine Run.q (e:=vB) (gv:=vT_Iv_Iv_Iv_I) (os_ValidEllipsoid _) fun r3 _=>?_
   refine Run.z [false,false] ?_
   refine Run.y (gv:=vT_Iv_Iv_Iv_I) (fun _=>?_) (fun _=>?_)
   ·refine Run.z [true,true,true] ?_
    exact Run.x 0
   ·refine Run.w (e:=vB) (gv:=vT_Iv_Iv_Iv_I) [3] (os_l14Ok__pPl _) fun r4 _=>?_
    refine Run.z [false,false] ?_
    refine Run.y (gv:=vT_Iv_Iv_Iv_I) (fun _=>?_) (fun _=>?_)
    ·exact Run.x 0
    ·refine Run.w (e:=vAf) (gv:=vT_Iv_Iv_Iv_I) [1] (os_l23Affine__pSf _) fun r5 _=>?_
     refine Run.w (e:=vVc) (gv:=vT_Iv_Iv_Iv_I) [3] (os_l14To__pPl _ _) fun r6 _=>?_
     refine Run.q (e:=vVc) (gv:=vT_Iv_Iv_Iv_I) (os_ApplyAffine _ _) fun r7 _=>?_
     refine Run.q (e:=vT_Iv_Iv_Iv_I) (gv:=vT_Iv_Iv_Iv_I) (os_FromCartesian _ _) fun r8 _=>?_
     exact Run.x 0
theorem os_LatOf (a0 : Pt) : Fun Tryz.prog 79 [] #[vPt a0] (vIv (S_LatOf a0)) []:=by
 refine Fun.ofH 400 E_ok mixed Tryz.func79 (by kernel_rfl) (by kernel_rfl) ?_
 unfold S_LatOf
 refine Run.q (e:=vB) (gv:=vIv) (os_l11Ok _) fun r1 _=>?_
 refine Run.y (gv:=vIv) (fun _=>?_) (fun _=>?_)
 ·refine Run.q (e:=vIv) (gv:=vIv) (os_Whole) fun r2 _=>?_
  exact Run.x 0
 ·refine Run.q (e:=vIv) (gv:=vIv) (os_RadiansOf _) fun r3 _=>?_
  exact Run.x 0
theorem os_l11Pole (a0 : Pt) : Fun Tryz.prog 80 [] #[vPt a0] (vB (S_l11Pole a0)) []:=by
 refine Fun.ofH 400 E_ok mixed Tryz.func80 (by kernel_rfl) (by kernel_rfl) ?_
 unfold S_l11Pole
 refine Run.y (gv:=vB) (fun _=>?_) (fun _=>?_)
 ·refine Run.z [true,true,true] ?_
  exact Run.x 0
 ·refine Run.z [false,false,false] ?_
  exact Run.x 0
theorem os_AtPoint (a0 : Iv) (a1 : Iv) (a2 : Pt) : Fun Tryz.prog 22 [] #[vIv a0,vIv a1,vPt a2] (vB (S_AtPoint a0 a1 a2)) []:=by
 refine Fun.ofH 400 E_ok mixed Tryz.func22 (by kernel_rfl) (by kernel_rfl) ?_
 unfold S_AtPoint
 refine Run.q (e:=vB) (gv:=vB) (os_l11Ok _) fun r1 _=>?_
 refine Run.y (gv:=vB) (fun _=>?_) (fun _=>?_)
 ·refine Run.z [true,true,true,true,true,true] ?_
  exact Run.x 0
 ·refine Run.z [false,false] ?_
  refine Run.q (e:=vIv) (gv:=vB) (os_LatOf _) fun r2 _=>?_
  refine Run.z [false] ?_
  refine Run.q (e:=vB) (gv:=vB) (os_OverlapI _ _) fun r3 _=>?_
  refine Run.z [false,false] ?_
  refine Run.y (gv:=vB) (fun _=>?_) (fun _=>?_)
  ·exact Run.x 0
  ·refine Run.q (e:=vB) (gv:=vB) (os_l11Pole _) fun r4 _=>?_
   refine Run.y (gv:=vB) (fun _=>?_) (fun _=>?_)
   ·exact Run.x 0
   ·refine Run.u 400 E_ok mixed Tryz.func22 ?_
    refine Run.z [true] ?_
    refine Run.q (e:=vIv) (gv:=vB) (os_RadiansOf _) fun r5 _=>?_
    refine Run.q (e:=vB) (gv:=vB) (os_OverlapI _ _) fun r6 _=>?_
    refine Run.y (gv:=vB) (fun _=>?_) (fun _=>?_)
    ·exact Run.x 0
    ·refine Run.u 400 E_ok mixed Tryz.func22 ?_
     refine Run.z [true] ?_
     refine Run.q (e:=vIv) (gv:=vB) (os_RadiansOf _) fun r7 _=>?_
     refine Run.q (e:=vB) (gv:=vB) (os_OverlapI _ _) fun r8 _=>?_
     refine Run.y (gv:=vB) (fun _=>?_) (fun _=>?_)
     ·exact Run.x 0
     ·refine Run.u 400 E_ok mixed Tryz.func22 ?_
      refine Run.z [true] ?_
      refine Run.q (e:=vIv) (gv:=vB) (os_RadiansOf _) fun r9 _=>?_
      refine Run.q (e:=vB) (gv:=vB) (os_OverlapI _ _) fun r10 _=>?_
      refine Run.y (gv:=vB) (fun _=>?_) (fun _=>?_)
      ·exact Run.x 0
      ·refine Run.u 400 E_ok mixed Tryz.func22 ?_
       refine Run.z [true] ?_
       refine Run.q (e:=vIv) (gv:=vB) (os_RadiansOf _) fun r11 _=>?_
       refine Run.q (e:=vB) (gv:=vB) (os_OverlapI _ _) fun r12 _=>?_
       refine Run.y (gv:=vB) (fun _=>?_) (fun _=>?_)
       ·exact Run.x 0
       ·refine Run.u 400 E_ok mixed Tryz.func22 ?_
        refine Run.z [true] ?_
        refine Run.q (e:=vIv) (gv:=vB) (os_RadiansOf _) fun r13 _=>?_
        refine Run.q (e:=vB) (gv:=vB) (os_OverlapI _ _) fun r14 _=>?_
        refine Run.y (gv:=vB) (fun _=>?_) (fun _=>?_)
        ·exact Run.x 0
        ·refine Run.u 400 E_ok mixed Tryz.func22 ?_
         refine Run.z [true] ?_
         refine Run.q (e:=vIv) (gv:=vB) (os_RadiansOf _) fun r15 _=>?_
         refine Run.q (e:=vB) (gv:=vB) (os_OverlapI _ _) fun r16 _=>?_
         refine Run.y (gv:=vB) (fun _=>?_) (fun _=>?_)
         ·exact Run.x 0
         ·refine Run.u 400 E_ok mixed Tryz.func22 ?_
          refine Run.z [true] ?_
          refine Run.q (e:=vIv) (gv:=vB) (os_RadiansOf _) fun r17 _=>?_
          refine Run.q (e:=vB) (gv:=vB) (os_OverlapI _ _) fun r18 _=>?_
          refine Run.y (gv:=vB) (fun _=>?_) (fun _=>?_)
          ·exact Run.x 0
          ·refine Run.u 400 E_ok mixed Tryz.func22 ?_
           refine Run.z [true] ?_
           refine Run.q (e:=vIv) (gv:=vB) (os_RadiansOf _) fun r19 _=>?_
           refine Run.q (e:=vB) (gv:=vB) (os_OverlapI _ _) fun r20 _=>?_
           refine Run.y (gv:=vB) (fun _=>?_) (fun _=>?_)
           ·exact Run.x 0
           ·refine Run.u 400 E_ok mixed Tryz.func22 ?_
            refine Run.z [true] ?_
            refine Run.q (e:=vIv) (gv:=vB) (os_RadiansOf _) fun r21 _=>?_
            refine Run.q (e:=vB) (gv:=vB) (os_OverlapI _ _) fun r22 _=>?_
            refine Run.y (gv:=vB) (fun _=>?_) (fun _=>?_)
            ·exact Run.x 0
            ·refine Run.u 400 E_ok mixed Tryz.func22 ?_
             refine Run.z [true] ?_
             refine Run.q (e:=vIv) (gv:=vB) (os_RadiansOf _) fun r23 _=>?_
             refine Run.q (e:=vB) (gv:=vB) (os_OverlapI _ _) fun r24 _=>?_
             refine Run.y (gv:=vB) (fun _=>?_) (fun _=>?_)
             ·exact Run.x 0
             ·refine Run.u 400 E_ok mixed Tryz.func22 ?_
              refine Run.z [true] ?_
              refine Run.q (e:=vIv) (gv:=vB) (os_RadiansOf _) fun r25 _=>?_
              refine Run.q (e:=vB) (gv:=vB) (os_OverlapI _ _) fun r26 _=>?_
              refine Run.y (gv:=vB) (fun _=>?_) (fun _=>?_)
              ·exact Run.x 0
              ·refine Run.u 400 E_ok mixed Tryz.func22 ?_
               refine Run.z [true] ?_
               refine Run.q (e:=vIv) (gv:=vB) (os_RadiansOf _) fun r27 _=>?_
               refine Run.q (e:=vB) (gv:=vB) (os_OverlapI _ _) fun r28 _=>?_
               refine Run.y (gv:=vB) (fun _=>?_) (fun _=>?_)
               ·exact Run.x 0
               ·refine Run.u 400 E_ok mixed Tryz.func22 ?_
                refine Run.z [true] ?_
                refine Run.q (e:=vIv) (gv:=vB) (os_RadiansOf _) fun r29 _=>?_
                refine Run.q (e:=vB) (gv:=vB) (os_OverlapI _ _) fun r30 _=>?_
                refine Run.y (gv:=vB) (fun _=>?_) (fun _=>?_)
                ·exact Run.x 0
                ·refine Run.u 400 E_ok mixed Tryz.func22 ?_
                 refine Run.z [true] ?_
                 refine Run.q (e:=vIv) (gv:=vB) (os_RadiansOf _) fun r31 _=>?_
                 refine Run.q (e:=vB) (gv:=vB) (os_OverlapI _ _) fun r32 _=>?_
                 refine Run.y (gv:=vB) (fun _=>?_) (fun _=>?_)
                 ·exact Run.x 0
                 ·refine Run.u 400 E_ok mixed Tryz.func22 ?_
                  refine Run.z [true] ?_
                  refine Run.q (e:=vIv) (gv:=vB) (os_RadiansOf _) fun r33 _=>?_
                  refine Run.q (e:=vB) (gv:=vB) (os_OverlapI _ _) fun r34 _=>?_
                  refine Run.y (gv:=vB) (fun _=>?_) (fun _=>?_)
                  ·exact Run.x 0
                  ·refine Run.u 400 E_ok mixed Tryz.func22 ?_
                   refine Run.z [true] ?_
                   refine Run.q (e:=vIv) (gv:=vB) (os_RadiansOf _) fun r35 _=>?_
                   refine Run.q (e:=vB) (gv:=vB) (os_OverlapI _ _) fun r36 _=>?_
                   refine Run.y (gv:=vB) (fun _=>?_) (fun _=>?_)
                   ·exact Run.x 0
                   ·refine Run.u 400 E_ok mixed Tryz.func22 ?_
                    refine Run.z [true] ?_
                    refine Run.q (e:=vIv) (gv:=vB) (os_RadiansOf _) fun r37 _=>?_
                    refine Run.q (e:=vB) (gv:=vB) (os_OverlapI _ _) fun r38 _=>?_
                    refine Run.y (gv:=vB) (fun _=>?_) (fun _=>?_)
                    ·exact Run.x 0
                    ·refine Run.u 400 E_ok mixed Tryz.func22 ?_
                     refine Run.z [true] ?_
                     refine Run.q (e:=vIv) (gv:=vB) (os_RadiansOf _) fun r39 _=>?_
                     refine Run.q (e:=vB) (gv:=vB) (os_OverlapI _ _) fun r40 _=>?_
                     refine Run.y (gv:=vB) (fun _=>?_) (fun _=>?_)
                     ·exact Run.x 0
                     ·refine Run.u 400 E_ok mixed Tryz.func22 ?_
                      refine Run.z [true] ?_
                      refine Run.q (e:=vIv) (gv:=vB) (os_RadiansOf _) fun r41 _=>?_
                      refine Run.q (e:=vB) (gv:=vB) (os_OverlapI _ _) fun r42 _=>?_
                      refine Run.y (gv:=vB) (fun _=>?_) (fun _=>?_)
                      ·exact Run.x 0
                      ·refine Run.u 400 E_ok mixed Tryz.func22 ?_
                       refine Run.z [false] ?_
                       exact Run.x 0
theorem os_HeightI (a0 : I64) : Fun Tryz.prog 23 [] #[vI a0] (vIv (S_HeightI a0)) []:=by
 refine Fun.ofH 400 E_ok mixed Tryz.func23 (by kernel_rfl) (by kernel_rfl) ?_
 unfold S_HeightI
 refine Run.q (e:=vB) (gv:=vIv) (os_l00In _ _ _) fun r1 _=>?_
 refine Run.y (gv:=vIv) (fun _=>?_) (fun _=>?_)
 ·refine Run.q (e:=vIv) (gv:=vIv) (os_Whole) fun r2 _=>?_
  exact Run.x 0
 ·refine Run.q (e:=vIv) (gv:=vIv) (os_Quotient _ _) fun r3 _=>?_
  exact Run.x 0
theorem os_SphereOf (a0 : I64) : Fun Tryz.prog 24 [] #[vI a0] (vT_El_I (S_SphereOf a0)) []:=by
 refine Fun.ofH 400 E_ok mixed Tryz.func24 (by kernel_rfl) (by kernel_rfl) ?_
 unfold S_SphereOf
 refine Run.q (e:=vB) (gv:=vT_El_I) (os_l12Ok _) fun r1 _=>?_
 refine Run.y (gv:=vT_El_I) (fun _=>?_) (fun _=>?_)
 ·exact Run.x 0
 ·exact Run.x 0
theorem os_l00From_n : FunS Tryz.prog 26 [] [] #[(.slice none 0 0)] (fun v Y=>v = .pointer (some ⟨0,0,none⟩) ∧ Y = [srcB 102 (.slice none 0 0) (c64 0) (cu64 0)]):=Sourced.none (by decide) os_l00Sourced
theorem os_l00Src_next__src_n (b1 : Src) (ps : 0 ≤ b1.ix.val ∧ b1.ix.val + 1 ≤ 1000000000) : FunS Tryz.prog 86 [] [srcB 102 (.slice none 0 0) b1.ix b1.sd] #[.pointer (some ⟨0,0,none⟩)] (Drew vI 102 (.slice none 0 0) b1.ix.val (b1.ix.val + 1) (S_l00Src_next__src Cd.nil b1)):=by
 refine FunS.drew (fun _ _=>rfl) rfl (by kernel_rfl) (FunR.of 400 E_ok mixed Tryz.func86 (by kernel_rfl) ?_)
 show Run _ _ ((RD [] vI 102 (.slice none 0 0) b1.ix.val (b1.ix.val + 1)) (S_l00Src_next__src Cd.nil b1)) _
 unfold S_l00Src_next__src
 refine Run.gn (Rg:=(RD [] vI 102 (.slice none 0 0) b1.ix.val (b1.ix.val + 1))) (c:=(decide (b1.ix.val < (((Cd.nil.L.length : Nat) : Int))))) (by kernel_rfl) (by refine decide_eq_false ?_; show ¬ (b1.ix.val < 0); omega) ?_
 refine Run.gy (Rg:=(RD [] vI 102 (.slice none 0 0) b1.ix.val (b1.ix.val + 1))) (fun h1=>?_) (fun h1=>?_)
 ·exact Run.dr (by kernel_rfl) (by kernel_rfl) (by first | omega | (simp only [w64_val,c64_val] at *; omega))
 ·refine Run.z [true] ?_
  exact Run.dr (by kernel_rfl) (by kernel_rfl) (by first | omega | (simp only [w64_val,c64_val] at *; omega))
theorem os_l00Src_pick__src_n (b1 : Src) (a0 : I64) (ps : 0 ≤ b1.ix.val ∧ b1.ix.val + 2 ≤ 1000000000) : FunS Tryz.prog 28 [] [srcB 102 (.slice none 0 0) b1.ix b1.sd] #[.pointer (some ⟨0,0,none⟩),vI a0] (Drew vI 102 (.slice none 0 0) b1.ix.val (b1.ix.val + 2) (S_l00Src_pick__src Cd.nil b1 a0)):=by
 refine FunS.drew (fun _ _=>rfl) rfl (by kernel_rfl) (FunR.of 400 E_ok mixed Tryz.func28 (by kernel_rfl) ?_)
 show Run _ _ ((RD [] vI 102 (.slice none 0 0) b1.ix.val (b1.ix.val + 2)) (S_l00Src_pick__src Cd.nil b1 a0)) _
 unfold S_l00Src_pick__src
 refine Run.gy (Rg:=(RD [] vI 102 (.slice none 0 0) b1.ix.val (b1.ix.val + 2))) (fun h1=>?_) (fun h1=>?_)
 ·exact Run.dr (by kernel_rfl) (by kernel_rfl) (by first | omega | (simp only [w64_val,c64_val] at *; omega))
 ·refine Run.cw (e:=vI) (Rg:=(RD [] vI 102 (.slice none 0 0) b1.ix.val (b1.ix.val + 2))) [] 0 (os_l00Src_next__src_n _ (by first | omega | (simp only [w64_val,c64_val] at *; omega))) rfl fun r2 hr2 kr2=>?_
  refine Run.gy (Rg:=(RD [] vI 102 (.slice none 0 0) b1.ix.val (b1.ix.val + 2))) (fun h3=>?_) (fun h3=>?_)
  ·refine Run.cw (e:=vI) (Rg:=(RD [] vI 102 (.slice none 0 0) b1.ix.val (b1.ix.val + 2))) [] 0 (os_l00Src_next__src_n _ (by first | omega | (simp only [w64_val,c64_val] at *; omega))) rfl fun r4 hr4 kr4=>?_
   refine Run.k (c:=(decide (a0.val ≠ 0))) (by kernel_rfl) (by simp only [w64_val,wu64_val,c64_val,cu64_val,decide_eq_true_eq,decide_eq_false_iff_not,cond_true,cond_false] at *; omega) ?_
   exact Run.dr (by kernel_rfl) (by kernel_rfl) (by first | omega | (simp only [w64_val,c64_val] at *; omega))
  ·refine Run.k (c:=(decide (a0.val ≠ 0))) (by kernel_rfl) (by simp only [w64_val,wu64_val,c64_val,cu64_val,decide_eq_true_eq,decide_eq_false_iff_not,cond_true,cond_false] at *; omega) ?_
   exact Run.dr (by kernel_rfl) (by kernel_rfl) (by first | omega | (simp only [w64_val,c64_val] at *; omega))
theorem os_E8Ellipsoid_n : Fun Tryz.prog 18 [] #[.slice none 0 0] (vEl (S_E8Ellipsoid Cd.nil)) []:=by
 refine Fun.ofH 400 E_ok mixed Tryz.func18 (by kernel_rfl) (by kernel_rfl) ?_
 unfold S_E8Ellipsoid
 refine Run.cf [] os_l00From_n rfl ?_
 refine Run.cw (e:=vI) (Rg:=(fun b=>RvH [] (vEl b))) [] 1 (os_l00Src_pick__src_n _ _ (by first | omega | (simp only [w64_val,c64_val] at *; omega))) rfl fun r1 hr1 kr1=>?_
 refine Run.y (gv:=vEl) (fun h2=>?_) (fun h2=>?_)
 ·exact Run.x 0
 ·refine Run.y (gv:=vEl) (fun h3=>?_) (fun h3=>?_)
  ·exact Run.x 0
  ·refine Run.y (gv:=vEl) (fun h4=>?_) (fun h4=>?_)
   ·refine Run.cw (e:=vI) (Rg:=(fun b=>RvH [] (vEl b))) [] 1 (os_l00Src_pick__src_n _ _ (by first | omega | (simp only [w64_val,c64_val] at *; omega))) rfl fun r5 hr5 kr5=>?_
    refine Run.cw (e:=vI) (Rg:=(fun b=>RvH [] (vEl b))) [] 1 (os_l00Src_pick__src_n _ _ (by first | omega | (simp only [w64_val,c64_val] at *; omega))) rfl fun r6 hr6 kr6=>?_
    refine Run.cw (e:=vI) (Rg:=(fun b=>RvH [] (vEl b))) [] 1 (os_l00Src_pick__src_n _ _ (by first | omega | (simp only [w64_val,c64_val] at *; omega))) rfl fun r7 hr7 kr7=>?_
    exact Run.x 0
   ·refine Run.q (e:=vEl) (gv:=vEl) (os_l12Wgs) fun r8 hr8=>?_
    exact Run.x 0
theorem os_l00Src_one__src_n (b1 : Src) (a0 : I64) (ps : 0 ≤ b1.ix.val ∧ b1.ix.val + 2 ≤ 1000000000) : FunS Tryz.prog 85 [] [srcB 102 (.slice none 0 0) b1.ix b1.sd] #[.pointer (some ⟨0,0,none⟩),vI a0] (Drew vB 102 (.slice none 0 0) b1.ix.val (b1.ix.val + 2) (S_l00Src_one__src Cd.nil b1 a0)):=by
 refine FunS.drew (fun _ _=>rfl) rfl (by kernel_rfl) (FunR.of 400 E_ok mixed Tryz.func85 (by kernel_rfl) ?_)
 show Run _ _ ((RD [] vB 102 (.slice none 0 0) b1.ix.val (b1.ix.val + 2)) (S_l00Src_one__src Cd.nil b1 a0)) _
 unfold S_l00Src_one__src
 refine Run.cw (e:=vI) (Rg:=(RD [] vB 102 (.slice none 0 0) b1.ix.val (b1.ix.val + 2))) [] 0 (os_l00Src_pick__src_n _ _ (by first | omega | (simp only [w64_val,c64_val] at *; omega))) rfl fun r1 hr1 kr1=>?_
 exact Run.dr (by kernel_rfl) (by kernel_rfl) (by first | omega | (simp only [w64_val,c64_val] at *; omega))
theorem os_l00Src_among__src__s4_n (b1_0 : I64) (b1_1 : I64) (b1_2 : I64) (b1_3 : I64) (b2 : Src) (ps : 0 ≤ b2.ix.val ∧ b2.ix.val + 2 ≤ 1000000000) : FunS Tryz.prog 91 [(#[.int .i64 b1_0.val,.int .i64 b1_1.val,.int .i64 b1_2.val,.int .i64 b1_3.val],2)] [srcB 102 (.slice none 0 0) b2.ix b2.sd] #[.pointer (some ⟨1,0,none⟩),.slice (some ⟨0,0,none⟩) 4 4] (Drew vI 102 (.slice none 0 0) b2.ix.val (b2.ix.val + 2) (S_l00Src_among__src__s4 Cd.nil b1_0 b1_1 b1_2 b1_3 b2)):=by
 refine FunS.marks (args:=#[.pointer (some ⟨1,0,none⟩),.slice (some ⟨0,0,some 0⟩) 4 4]) (by kernel_rfl) ?_
 refine FunS.drew (fun _ _=>rfl) (allc (by kernel_rfl) rfl) (by kernel_rfl) (FunR.of 400 E_ok mixed Tryz.func91 (by kernel_rfl) ?_)
 show Run _ _ ((RD [(#[.int .i64 b1_0.val,.int .i64 b1_1.val,.int .i64 b1_2.val,.int .i64 b1_3.val],2)] vI 102 (.slice none 0 0) b2.ix.val (b2.ix.val + 2)) (S_l00Src_among__src__s4 Cd.nil b1_0 b1_1 b1_2 b1_3 b2)) _
 unfold S_l00Src_among__src__s4
 refine Run.cw (e:=vI) (Rg:=(RD [(#[.int .i64 b1_0.val,.int .i64 b1_1.val,.int .i64 b1_2.val,.int .i64 b1_3.val],2)] vI 102 (.slice none 0 0) b2.ix.val (b2.ix.val + 2))) [] 1 (os_l00Src_pick__src_n _ _ (by first | omega | (simp only [w64_val,c64_val] at *; omega))) rfl fun r1 hr1 kr1=>?_
 refine Run.k (c:=(decide (0 ≤ r1.1.val ∧ r1.1.val < 4))) (by kernel_rfl) (by rw [hr1]; first | exact decide_eq_true ⟨(pick_range _ _ _).1,(pick_range _ _ _).2 (by decide)⟩ | exact ⟨(pick_range _ _ _).1,(pick_range _ _ _).2 (by decide)⟩) ?_
 refine Run.ld (by kernel_rfl) (listAt_ok (L:=[b1_0,b1_1,b1_2,b1_3]) (pad:=[]) (i:=r1.1) (by rw [hr1]; first | exact decide_eq_true ⟨(pick_range _ _ _).1,(pick_range _ _ _).2 (by decide)⟩ | exact ⟨(pick_range _ _ _).1,(pick_range _ _ _).2 (by decide)⟩)) ?_
 exact Run.dr (by kernel_rfl) (by kernel_rfl) (by first | omega | (simp only [w64_val,c64_val] at *; omega))
theorem os_l05Number__src_n (b1 : Src) (a0 : I64) (p0 : 0 ≤ a0.val) (p1 : a0.val < 9223372036854775807) (ps : 0 ≤ b1.ix.val ∧ b1.ix.val + 13 ≤ 1000000000) : FunS Tryz.prog 64 [] [srcB 102 (.slice none 0 0) b1.ix b1.sd] #[.pointer (some ⟨0,0,none⟩),vI a0] (Drew vI 102 (.slice none 0 0) b1.ix.val (b1.ix.val + 13) (S_l05Number__src Cd.nil b1 a0)):=by
 refine FunS.drew (fun _ _=>rfl) rfl (by kernel_rfl) (FunR.of 400 E_ok mixed Tryz.func64 (by kernel_rfl) ?_)
 show Run _ _ ((RD [] vI 102 (.slice none 0 0) b1.ix.val (b1.ix.val + 13)) (S_l05Number__src Cd.nil b1 a0)) _
 unfold S_l05Number__src
 refine Run.u 400 E_ok mixed Tryz.func64 ?_
 refine Run.z [true,true] ?_
 refine Run.cw (e:=vI) (Rg:=(RD [] vI 102 (.slice none 0 0) b1.ix.val (b1.ix.val + 13))) [] 0 (os_l00Src_next__src_n _ (by first | omega | (simp only [w64_val,c64_val] at *; omega))) rfl fun r1 hr1 kr1=>?_
 refine Run.u 400 E_ok mixed Tryz.func64 ?_
 refine Run.z [true,true] ?_
 refine Run.cw (e:=vI) (Rg:=(RD [] vI 102 (.slice none 0 0) b1.ix.val (b1.ix.val + 13))) [] 0 (os_l00Src_next__src_n _ (by first | omega | (simp only [w64_val,c64_val] at *; omega))) rfl fun r2 hr2 kr2=>?_
 refine Run.u 400 E_ok mixed Tryz.func64 ?_
 refine Run.z [true,true] ?_
 refine Run.cw (e:=vI) (Rg:=(RD [] vI 102 (.slice none 0 0) b1.ix.val (b1.ix.val + 13))) [] 0 (os_l00Src_next__src_n _ (by first | omega | (simp only [w64_val,c64_val] at *; omega))) rfl fun r3 hr3 kr3=>?_
 refine Run.u 400 E_ok mixed Tryz.func64 ?_
 refine Run.z [true,true] ?_
 refine Run.cw (e:=vI) (Rg:=(RD [] vI 102 (.slice none 0 0) b1.ix.val (b1.ix.val + 13))) [] 0 (os_l00Src_next__src_n _ (by first | omega | (simp only [w64_val,c64_val] at *; omega))) rfl fun r4 hr4 kr4=>?_
 refine Run.u 400 E_ok mixed Tryz.func64 ?_
 refine Run.z [true,true] ?_
 refine Run.cw (e:=vI) (Rg:=(RD [] vI 102 (.slice none 0 0) b1.ix.val (b1.ix.val + 13))) [] 0 (os_l00Src_next__src_n _ (by first | omega | (simp only [w64_val,c64_val] at *; omega))) rfl fun r5 hr5 kr5=>?_
 refine Run.u 400 E_ok mixed Tryz.func64 ?_
 refine Run.z [true,true] ?_
 refine Run.cw (e:=vI) (Rg:=(RD [] vI 102 (.slice none 0 0) b1.ix.val (b1.ix.val + 13))) [] 0 (os_l00Src_next__src_n _ (by first | omega | (simp only [w64_val,c64_val] at *; omega))) rfl fun r6 hr6 kr6=>?_
 refine Run.u 400 E_ok mixed Tryz.func64 ?_
 refine Run.z [true,true] ?_
 refine Run.cw (e:=vI) (Rg:=(RD [] vI 102 (.slice none 0 0) b1.ix.val (b1.ix.val + 13))) [] 0 (os_l00Src_next__src_n _ (by first | omega | (simp only [w64_val,c64_val] at *; omega))) rfl fun r7 hr7 kr7=>?_
 refine Run.u 400 E_ok mixed Tryz.func64 ?_
 refine Run.z [false] ?_
 refine Run.k (c:=(decide ((w64 (a0.val + 1)).val ≠ 0))) (by kernel_rfl) (by simp only [w64_val,wu64_val,c64_val,cu64_val,decide_eq_true_eq,decide_eq_false_iff_not,cond_true,cond_false] at *; omega) ?_
 refine Run.cw (e:=vI) (Rg:=(RD [] vI 102 (.slice none 0 0) b1.ix.val (b1.ix.val + 13))) [] 0 (os_l00Src_pick__src_n _ _ (by first | omega | (simp only [w64_val,c64_val] at *; omega))) rfl fun r8 hr8 kr8=>?_
 refine Run.gy (Rg:=(RD [] vI 102 (.slice none 0 0) b1.ix.val (b1.ix.val + 13))) (fun h9=>?_) (fun h9=>?_)
 ·refine Run.cw (e:=vI) (Rg:=(RD [] vI 102 (.slice none 0 0) b1.ix.val (b1.ix.val + 13))) [] 0 (os_l00Src_pick__src_n _ _ (by first | omega | (simp only [w64_val,c64_val] at *; omega))) rfl fun r10 hr10 kr10=>?_
  refine Run.k (c:=(decide (0 ≤ (wu64 r10.1.val).val))) (by kernel_rfl) (by simp only [w64_val,wu64_val,c64_val,cu64_val,decide_eq_true_eq,decide_eq_false_iff_not,cond_true,cond_false] at *; omega) ?_
  refine Run.cw (e:=vB) (Rg:=(RD [] vI 102 (.slice none 0 0) b1.ix.val (b1.ix.val + 13))) [] 0 (os_l00Src_one__src_n _ _ (by first | omega | (simp only [w64_val,c64_val] at *; omega))) rfl fun r11 hr11 kr11=>?_
  refine Run.gy (Rg:=(RD [] vI 102 (.slice none 0 0) b1.ix.val (b1.ix.val + 13))) (fun h12=>?_) (fun h12=>?_)
  ·exact Run.dr (by kernel_rfl) (by kernel_rfl) (by first | omega | (simp only [w64_val,c64_val] at *; omega))
  ·exact Run.dr (by kernel_rfl) (by kernel_rfl) (by first | omega | (simp only [w64_val,c64_val] at *; omega))
 ·refine Run.gy (Rg:=(RD [] vI 102 (.slice none 0 0) b1.ix.val (b1.ix.val + 13))) (fun h13=>?_) (fun h13=>?_)
  ·refine Run.z [true] ?_
   refine Run.cw (e:=vI) (Rg:=(RD [] vI 102 (.slice none 0 0) b1.ix.val (b1.ix.val + 13))) [1] 0 (os_l00Src_among__src__s4_n _ _ _ _ _ (by first | omega | (simp only [w64_val,c64_val] at *; omega))) (allc (by kernel_rfl) rfl) fun r14 hr14 kr14=>?_
   refine Run.cw (e:=vB) (Rg:=(RD [] vI 102 (.slice none 0 0) b1.ix.val (b1.ix.val + 13))) [] 0 (os_l00Src_one__src_n _ _ (by first | omega | (simp only [w64_val,c64_val] at *; omega))) rfl fun r15 hr15 kr15=>?_
   refine Run.gy (Rg:=(RD [] vI 102 (.slice none 0 0) b1.ix.val (b1.ix.val + 13))) (fun h16=>?_) (fun h16=>?_)
   ·exact Run.dr (by kernel_rfl) (by kernel_rfl) (by first | omega | (simp only [w64_val,c64_val] at *; omega))
   ·exact Run.dr (by kernel_rfl) (by kernel_rfl) (by first | omega | (simp only [w64_val,c64_val] at *; omega))
  ·refine Run.cw (e:=vB) (Rg:=(RD [] vI 102 (.slice none 0 0) b1.ix.val (b1.ix.val + 13))) [] 0 (os_l00Src_one__src_n _ _ (by first | omega | (simp only [w64_val,c64_val] at *; omega))) rfl fun r17 hr17 kr17=>?_
   refine Run.gy (Rg:=(RD [] vI 102 (.slice none 0 0) b1.ix.val (b1.ix.val + 13))) (fun h18=>?_) (fun h18=>?_)
   ·exact Run.dr (by kernel_rfl) (by kernel_rfl) (by first | omega | (simp only [w64_val,c64_val] at *; omega))
   ·exact Run.dr (by kernel_rfl) (by kernel_rfl) (by first | omega | (simp only [w64_val,c64_val] at *; omega))
theorem os_l00Src_among__src__s5_n (b1_0 : I64) (b1_1 : I64) (b1_2 : I64) (b1_3 : I64) (b1_4 : I64) (b2 : Src) (ps : 0 ≤ b2.ix.val ∧ b2.ix.val + 2 ≤ 1000000000) : FunS Tryz.prog 91 [(#[.int .i64 b1_0.val,.int .i64 b1_1.val,.int .i64 b1_2.val,.int .i64 b1_3.val,.int .i64 b1_4.val],2)] [srcB 102 (.slice none 0 0) b2.ix b2.sd] #[.pointer (some ⟨1,0,none⟩),.slice (some ⟨0,0,none⟩) 5 5] (Drew vI 102 (.slice none 0 0) b2.ix.val (b2.ix.val + 2) (S_l00Src_among__src__s5 Cd.nil b1_0 b1_1 b1_2 b1_3 b1_4 b2)):=by
 refine FunS.marks (args:=#[.pointer (some ⟨1,0,none⟩),.slice (some ⟨0,0,some 0⟩) 5 5]) (by kernel_rfl) ?_
 refine FunS.drew (fun _ _=>rfl) (allc (by kernel_rfl) rfl) (by kernel_rfl) (FunR.of 400 E_ok mixed Tryz.func91 (by kernel_rfl) ?_)
 show Run _ _ ((RD [(#[.int .i64 b1_0.val,.int .i64 b1_1.val,.int .i64 b1_2.val,.int .i64 b1_3.val,.int .i64 b1_4.val],2)] vI 102 (.slice none 0 0) b2.ix.val (b2.ix.val + 2)) (S_l00Src_among__src__s5 Cd.nil b1_0 b1_1 b1_2 b1_3 b1_4 b2)) _
 unfold S_l00Src_among__src__s5
 refine Run.cw (e:=vI) (Rg:=(RD [(#[.int .i64 b1_0.val,.int .i64 b1_1.val,.int .i64 b1_2.val,.int .i64 b1_3.val,.int .i64 b1_4.val],2)] vI 102 (.slice none 0 0) b2.ix.val (b2.ix.val + 2))) [] 1 (os_l00Src_pick__src_n _ _ (by first | omega | (simp only [w64_val,c64_val] at *; omega))) rfl fun r1 hr1 kr1=>?_
 refine Run.k (c:=(decide (0 ≤ r1.1.val ∧ r1.1.val < 5))) (by kernel_rfl) (by rw [hr1]; first | exact decide_eq_true ⟨(pick_range _ _ _).1,(pick_range _ _ _).2 (by decide)⟩ | exact ⟨(pick_range _ _ _).1,(pick_range _ _ _).2 (by decide)⟩) ?_
 refine Run.ld (by kernel_rfl) (listAt_ok (L:=[b1_0,b1_1,b1_2,b1_3,b1_4]) (pad:=[]) (i:=r1.1) (by rw [hr1]; first | exact decide_eq_true ⟨(pick_range _ _ _).1,(pick_range _ _ _).2 (by decide)⟩ | exact ⟨(pick_range _ _ _).1,(pick_range _ _ _).2 (by decide)⟩)) ?_
 exact Run.dr (by kernel_rfl) (by kernel_rfl) (by first | omega | (simp only [w64_val,c64_val] at *; omega))
theorem os_l11Draw__src_n (b1 : Src) (ps : 0 ≤ b1.ix.val ∧ b1.ix.val + 30 ≤ 1000000000) : FunS Tryz.prog 32 [] [srcB 102 (.slice none 0 0) b1.ix b1.sd] #[.pointer (some ⟨0,0,none⟩)] (Drew vPt 102 (.slice none 0 0) b1.ix.val (b1.ix.val + 30) (S_l11Draw__src Cd.nil b1)):=by
 refine FunS.drew (fun _ _=>rfl) rfl (by kernel_rfl) (FunR.of 400 E_ok mixed Tryz.func32 (by kernel_rfl) ?_)
 show Run _ _ ((RD [] vPt 102 (.slice none 0 0) b1.ix.val (b1.ix.val + 30)) (S_l11Draw__src Cd.nil b1)) _
 unfold S_l11Draw__src
 refine Run.cw (e:=vI) (Rg:=(RD [] vPt 102 (.slice none 0 0) b1.ix.val (b1.ix.val + 30))) [] 0 (os_l05Number__src_n _ _ (by simp only [w64_val,wu64_val,c64_val,cu64_val,decide_eq_true_eq,decide_eq_false_iff_not,cond_true,cond_false] at *; omega) (by simp only [w64_val,wu64_val,c64_val,cu64_val,decide_eq_true_eq,decide_eq_false_iff_not,cond_true,cond_false] at *; omega) (by first | omega | (simp only [w64_val,c64_val] at *; omega))) rfl fun r1 hr1 kr1=>?_
 refine Run.cw (e:=vI) (Rg:=(RD [] vPt 102 (.slice none 0 0) b1.ix.val (b1.ix.val + 30))) [] 0 (os_l05Number__src_n _ _ (by simp only [w64_val,wu64_val,c64_val,cu64_val,decide_eq_true_eq,decide_eq_false_iff_not,cond_true,cond_false] at *; omega) (by simp only [w64_val,wu64_val,c64_val,cu64_val,decide_eq_true_eq,decide_eq_false_iff_not,cond_true,cond_false] at *; omega) (by first | omega | (simp only [w64_val,c64_val] at *; omega))) rfl fun r2 hr2 kr2=>?_
 refine Run.gq (Rg:=(RD [] vPt 102 (.slice none 0 0) b1.ix.val (b1.ix.val + 30))) (e:=vI) (os_l11Wrap _) fun r3 hr3=>?_
 refine Run.cw (e:=vI) (Rg:=(RD [] vPt 102 (.slice none 0 0) b1.ix.val (b1.ix.val + 30))) [] 0 (os_l00Src_pick__src_n _ _ (by first | omega | (simp only [w64_val,c64_val] at *; omega))) rfl fun r4 hr4 kr4=>?_
 refine Run.gy (Rg:=(RD [] vPt 102 (.slice none 0 0) b1.ix.val (b1.ix.val + 30))) (fun h5=>?_) (fun h5=>?_)
 ·refine Run.cw (e:=vI) (Rg:=(RD [] vPt 102 (.slice none 0 0) b1.ix.val (b1.ix.val + 30))) [3] 0 (os_l00Src_among__src__s4_n _ _ _ _ _ (by first | omega | (simp only [w64_val,c64_val] at *; omega))) (allc (by kernel_rfl) rfl) fun r6 hr6 kr6=>?_
  exact Run.dr (by kernel_rfl) (by kernel_rfl) (by first | omega | (simp only [w64_val,c64_val] at *; omega))
 ·refine Run.gy (Rg:=(RD [] vPt 102 (.slice none 0 0) b1.ix.val (b1.ix.val + 30))) (fun h7=>?_) (fun h7=>?_)
  ·refine Run.cw (e:=vI) (Rg:=(RD [] vPt 102 (.slice none 0 0) b1.ix.val (b1.ix.val + 30))) [3] 0 (os_l00Src_among__src__s5_n _ _ _ _ _ _ (by first | omega | (simp only [w64_val,c64_val] at *; omega))) (allc (by kernel_rfl) rfl) fun r8 hr8 kr8=>?_
   exact Run.dr (by kernel_rfl) (by kernel_rfl) (by first | omega | (simp only [w64_val,c64_val] at *; omega))
  ·exact Run.dr (by kernel_rfl) (by kernel_rfl) (by first | omega | (simp only [w64_val,c64_val] at *; omega))
theorem os_E8Place_n : Fun Tryz.prog 19 [] #[.slice none 0 0] (vPl (S_E8Place Cd.nil)) []:=by
 refine Fun.ofH 400 E_ok mixed Tryz.func19 (by kernel_rfl) (by kernel_rfl) ?_
 unfold S_E8Place
 refine Run.cf [] os_l00From_n rfl ?_
 refine Run.cw (e:=vPt) (Rg:=(fun b=>RvH [] (vPl b))) [] 1 (os_l11Draw__src_n _ (by first | omega | (simp only [w64_val,c64_val] at *; omega))) rfl fun r1 hr1 kr1=>?_
 refine Run.cw (e:=vI) (Rg:=(fun b=>RvH [] (vPl b))) [] 1 (os_l05Number__src_n _ _ (by simp only [w64_val,wu64_val,c64_val,cu64_val,decide_eq_true_eq,decide_eq_false_iff_not,cond_true,cond_false] at *; omega) (by simp only [w64_val,wu64_val,c64_val,cu64_val,decide_eq_true_eq,decide_eq_false_iff_not,cond_true,cond_false] at *; omega) (by first | omega | (simp only [w64_val,c64_val] at *; omega))) rfl fun r2 hr2 kr2=>?_
 refine Run.y (gv:=vPl) (fun h3=>?_) (fun h3=>?_)
 ·exact Run.x 0
 ·exact Run.x 0
end Go.Proofs.YtfhnlkinjbakgaaGreat.Abs

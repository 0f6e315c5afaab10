/- The functions' table stands for the loaded program's. -/
import Derived.Test.YtnefgdahdccldaaGreatDoorKTx
import Derived.Test.YtnefgdahdccldaaGreatDoorProg
import Derived.KernelRfl
set_option linter.all false
namespace Go.Ev
open Go.Proofs.Tryz
theorem J4:Plain prog (yG prog) wM qm:=
 pl1 W4 Vk func6 (by kernel_rfl)
theorem zex:Plain prog (yG prog) xH YF:=
 pl1 zaV za9 func9 (by kernel_rfl)
theorem zjB:Plain prog (yG prog) jN W9:=
 pl1 zfU zf2 func10 (by kernel_rfl)
theorem zaC:Plain prog (yG prog) xu jX:=
 pl1 VS VZ func14 (by kernel_rfl)
theorem zhQ:Plain prog (yG prog) Zh Ve:=
 pl1 zfI zfV func15 (by kernel_rfl)
theorem zks:Plain prog (yG prog) Yl Q2:=
 pl1 zj8 zjf func17 (by kernel_rfl)
theorem zgA:Plain prog (yG prog) ve Xt:=
 pl1 zdV zcL func23 (by kernel_rfl)
theorem zei:Plain prog (yG prog) wE YD:=
 pl1 za0 za8 func25 (by kernel_rfl)
theorem zgO:Plain prog (yG prog) xN Xo:=
 pl1 zdt zc8 func26 (by kernel_rfl)
theorem zjU:Plain prog (yG prog) jP WU:=
 pl1 zfJ zfQ func27 (by kernel_rfl)
theorem zjF:Plain prog (yG prog) xT W0:=
 pl1 zfZ zga func28 (by kernel_rfl)
theorem zbz:Plain prog (yG prog) vZ kG:=
 pl1 JH JA func29 (by kernel_rfl)
theorem zgH:Plain prog (yG prog) wC XC:=
 pl1 zdN zdM func32 (by kernel_rfl)
theorem zci:Plain prog (yG prog) vY kI:=
 pl1 JG JJ func34 (by kernel_rfl)
theorem QV:Plain prog (yG prog) xY qx:=
 pl1 Xh Xi func35 (by kernel_rfl)
theorem jD:Plain prog (yG prog) z8 yV:=
 pl1 wW wX func36 (by kernel_rfl)
theorem zeq:Plain prog (yG prog) wD YB:=
 pl1 zbj zbd func37 (by kernel_rfl)
theorem znz:Plain prog (yG prog) jn zaB:=
 pl1 zlo zl5 func38 (by kernel_rfl)
theorem zfb:Plain prog (yG prog) vn YM:=
 pl1 zbb zbi func41 (by kernel_rfl)
theorem zgx:Plain prog (yG prog) qg Xs:=
 pl1 zdr zdH func42 (by kernel_rfl)
theorem zgG:Plain prog (yG prog) v7 XB:=
 pl1 zcs zdG func43 (by kernel_rfl)
theorem zns:Plain prog (yG prog) Z8 zao:=
 pl1 zmg zlP func44 (by kernel_rfl)
theorem zkg:Plain prog (yG prog) Jc zcc:=
 pl1 zhT zjt func51 (by kernel_rfl)
theorem zgV:Plain prog (yG prog) vf Xn:=
 pl1 zcA zcH func56 (by kernel_rfl)
theorem zgr:Plain prog (yG prog) j2 XJ:=
 pl1 zcy zcD func57 (by kernel_rfl)
theorem zed:Plain prog (yG prog) jf Yx:=
 pl1 zbv zbs func58 (by kernel_rfl)
theorem zgU:Plain prog (yG prog) vi Xv:=
 pl1 zc7 zd7 func59 (by kernel_rfl)
theorem Km:Plain prog (yG prog) wL jz:=
 pl1 W5 WL func61 (by kernel_rfl)
theorem kr:Plain prog (yG prog) yK y9:=
 pl1 vN vO func62 (by kernel_rfl)
theorem zkO:Plain prog (yG prog) Ym Jk:=
 pl1 zja zid func63 (by kernel_rfl)
theorem zkS:Plain prog (yG prog) jS QO:=
 pl1 zji zj7 func64 (by kernel_rfl)
theorem Xm:Plain prog (yG prog) xb wF:=
 pl1 kE kx func66 (by kernel_rfl)
theorem zh2:Plain prog (yG prog) jO WX:=
 pl1 zfA zf0 func67 (by kernel_rfl)
theorem zn7:Plain prog (yG prog) zez ze6:=
 pl1 zl8 zlv func69 (by kernel_rfl)
theorem zgR:Plain prog (yG prog) Js Jn:=
 pl1 zcq zdv func70 (by kernel_rfl)
theorem znf:Plain prog (yG prog) ze2 zfn:=
 pl1 zlp zlr func71 (by kernel_rfl)
theorem zkK:Plain prog (yG prog) zb4 zb3:=
 pl1 zh1 zhe func72 (by kernel_rfl)
theorem zn9:Plain prog (yG prog) XS zeC:=
 pl1 zlN zlZ func73 (by kernel_rfl)
theorem zk7:Plain prog (yG prog) zbO zbK:=
 pl1 zhS ziX func74 (by kernel_rfl)
theorem zj6:Plain prog (yG prog) wc WQ:=
 pl1 zgf zf6 func75 (by kernel_rfl)
theorem ziT:Plain prog (yG prog) kZ W8:=
 pl1 zgk zfO func76 (by kernel_rfl)
theorem zfg:Plain prog (yG prog) jm YN:=
 pl1 zaX zaU func77 (by kernel_rfl)
theorem zcx:Plain prog (yG prog) qG ZB:=
 pl1 Kc K4 func80 (by kernel_rfl)
theorem zeW:Plain prog (yG prog) jd YE:=
 pl1 za3 zaP func81 (by kernel_rfl)
theorem zkI:Plain prog (yG prog) kV QY:=
 pl1 zh6 zhV func82 (by kernel_rfl)
theorem zik:Plain prog (yG prog) Zi WT:=
 pl1 zfF zfM func83 (by kernel_rfl)
theorem zcJ:Plain prog (yG prog) vB ZG:=
 pl1 J2 Kl func84 (by kernel_rfl)
theorem zk9:Plain prog (yG prog) kT Jy:=
 pl1 zhu zhG func85 (by kernel_rfl)
theorem ZP:Plain prog (yG prog) yO xM:=
 pl1 qW qV func86 (by kernel_rfl)
theorem zgn:Plain prog (yG prog) qk XK:=
 pl1 zcz zdP func87 (by kernel_rfl)
theorem zhl:Plain prog (yG prog) jJ W7:=
 pl1 zfE zfy func88 (by kernel_rfl)
theorem VR:Plain prog (yG prog) wk vF:=
 pl1 ZS Z5 func90 (by kernel_rfl)
theorem zfc:Plain prog (yG prog) je Yy:=
 pl1 zbg zbt func92 (by kernel_rfl)
theorem zje:Plain prog (yG prog) jT WY:=
 pl1 zfP zfp func94 (by kernel_rfl)
theorem zkT:Plain prog (yG prog) kX QB:=
 pl1 zkb ziJ func95 (by kernel_rfl)
theorem zbX:Plain prog (yG prog) xj kJ:=
 pl1 JE JF func96 (by kernel_rfl)
theorem JX:Plain prog (yG prog) yZ kN:=
 pl1 Wz Wd func97 (by kernel_rfl)
theorem zgv:Plain prog (yG prog) kb Xr:=
 pl1 zcY zdg func98 (by kernel_rfl)
theorem zeB:Plain prog (yG prog) qu YH:=
 pl1 zba zaO func99 (by kernel_rfl)
theorem Vz:Plain prog (yG prog) yT vK:=
 pl1 ZX ZY func100 (by kernel_rfl)
theorem zaF:Plain prog (yG prog) wm jZ:=
 pl1 V2 Ql func101 (by kernel_rfl)
theorem zfd:Plain prog (yG prog) jg YJ:=
 pl1 zbm zbo func102 (by kernel_rfl)
theorem zkz:Plain prog (yG prog) Yi Qt:=
 pl1 zio zjJ func103 (by kernel_rfl)
theorem VP:Plain prog (yG prog) xd vH:=
 pl1 ZT ZV func104 (by kernel_rfl)
theorem zkW:Plain prog (yG prog) kO QU:=
 pl1 zjT zhr func105 (by kernel_rfl)
theorem zgK:Plain prog (yG prog) w6 Xk:=
 pl1 zcT zcB func106 (by kernel_rfl)
theorem zgL:Plain prog (yG prog) wY Xw:=
 pl1 zdY zea func107 (by kernel_rfl)
theorem ziH:Plain prog (yG prog) jK WZ:=
 pl1 zgd zfG func108 (by kernel_rfl)
theorem zjk:Plain prog (yG prog) jL WM:=
 pl1 zf9 zf4 func109 (by kernel_rfl)
theorem zgw:Plain prog (yG prog) jW XL:=
 pl1 zd8 zdu func110 (by kernel_rfl)
theorem Y5:Plain prog (yG prog) yq wg:=
 pl1 kh kg func111 (by kernel_rfl)
theorem Wj:Plain prog (yG prog) xg wQ:=
 pl1 vM vR func112 (by kernel_rfl)
theorem zeU:Plain prog (yG prog) xF YI:=
 pl1 za5 zbf func114 (by kernel_rfl)
theorem zld:Plain prog (yG prog) jH QS:=
 pl1 ziR zhC func115 (by kernel_rfl)
theorem Vw:Plain prog (yG prog) yS vJ:=
 pl1 ZW Z1 func116 (by kernel_rfl)
theorem zgu:Plain prog (yG prog) va Xp:=
 pl1 zcR zc5 func117 (by kernel_rfl)
theorem WD:Plain prog (yG prog) xq qQ:=
 pl1 ZM ZC func121 (by kernel_rfl)
theorem zdT:Plain prog (yG prog) vt Zo:=
 pl1 Kk KP func122 (by kernel_rfl)
theorem zpr:Plain prog (yG prog) X9 zdx:=
 pl1 zoG zqt func123 (by kernel_rfl)
theorem Vu:Plain prog (yG prog) xD vL:=
 pl1 Z3 Z4 func124 (by kernel_rfl)
theorem zgF:Plain prog (yG prog) ka Xx:=
 pl1 zdc zcQ func125 (by kernel_rfl)
theorem zkx:Plain prog (yG prog) Yr QI:=
 pl1 zhj zhz func126 (by kernel_rfl)
theorem Yf:Plain prog (yG prog) ye xU:=
 pl1 wR wP func127 (by kernel_rfl)
theorem zgs:Plain prog (yG prog) qM Xj:=
 pl1 zd1 zdJ func129 (by kernel_rfl)
theorem zfj:Plain prog (yG prog) jb YL:=
 pl1 zbe zbw func135 (by kernel_rfl)
theorem zkB:Plain prog (yG prog) kW QK:=
 pl1 zjx ziI func136 (by kernel_rfl)
theorem zjz:Plain prog (yG prog) jQ WN:=
 pl1 zf5 zfS func137 (by kernel_rfl)
theorem znA:Dfr prog (yG prog) yz ze9 ([.s 4,.s 5],Va):=
 ⟨f20,f50,_,_,_,_,_,_,_,_,_,_,_,_,(kl [[2,3,4,5],[2,3,4,5],[4,5]]),(kd []),(kl [[],[0,1,2,7],[0,1,2,4],[0,1,2,14],[0,1]]),(kd []),[4,5],50,[2,3,4,5],func20,by kernel_rfl,rfl,rfl,by kernel_rfl,by kernel_rfl,by kernel_rfl,rfl,by kernel_rfl,
  by first | exact .inl ⟨_,_,_,_,_,rfl,rfl,rfl,rfl,rfl,rfl,rfl,rfl,rfl,rfl⟩ | exact .inr ⟨_,_,rfl,rfl,rfl,rfl⟩,rfl,by kernel_rfl,by decide,func50,by kernel_rfl,rfl,⟨_,_,_,_,rfl,rfl,rfl,rfl,rfl,rfl,rfl,by decide⟩,by kernel_rfl,by kernel_rfl,rfl,rfl,by decide⟩
set_option maxRecDepth 100000 in
theorem zBG:zmi prog (yG prog) E0:=
 zxX (l:=zzJ) (dl:=zzT) (.cons J4 <| .cons zex <| .cons zjB <| .cons zaC <| .cons zhQ <| .cons zks <| .dfr znA <| .cons zgA <| .cons zei <| .cons zgO <| .cons zjU <| .cons zjF <| .cons zbz <| .cons zgH <| .cons zci <| .cons QV <| .cons jD <| .cons zeq <| .cons znz <| .cons zfb <| .cons zgx <| .cons zgG <| .cons zns <| .cons zkg <| .cons zgV <| .cons zgr <| .cons zed <| .cons zgU <| .cons Km <| .cons kr <| .cons zkO <| .cons zkS <| .cons Xm <| .cons zh2 <| .cons zn7 <| .cons zgR <| .cons znf <| .cons zkK <| .cons zn9 <| .cons zk7 <| .cons zj6 <| .cons ziT <| .cons zfg <| .cons zcx <| .cons zeW <| .cons zkI <| .cons zik <| .cons zcJ <| .cons zk9 <| .cons ZP <| .cons zgn <| .cons zhl <| .cons VR <| .cons zfc <| .cons zje <| .cons zkT <| .cons zbX <| .cons JX <| .cons zgv <| .cons zeB <| .cons Vz <| .cons zaF <| .cons zfd <| .cons zkz <| .cons VP <| .cons zkW <| .cons zgK <| .cons zgL <| .cons ziH <| .cons zjk <| .cons zgw <| .cons Y5 <| .cons Wj <| .cons zeU <| .cons zld <| .cons Vw <| .cons zgu <| .cons WD <| .cons zdT <| .cons zpr <| .cons Vu <| .cons zgF <| .cons zkx <| .cons Yf <| .cons zgs <| .cons zfj <| .cons zkB <| .cons zjz <| .nil _ _ _) rfl rfl zBR zA7
set_option maxRecDepth 100000 in
theorem zBJ:ziM E0 E1 mk0:=by
 refine zwT (l:=zx0) (.cons (.pl qm rfl rfl rfl rfl (by kernel_rfl) (by kernel_rfl)) <| .cons (.pl YF rfl rfl rfl rfl (by kernel_rfl) (by kernel_rfl)) <| .cons (.pl W9 rfl rfl rfl rfl (by kernel_rfl) (by kernel_rfl)) <| .cons (.pl jX rfl rfl rfl rfl (by kernel_rfl) (by kernel_rfl)) <| .cons (.pl Ve rfl rfl rfl rfl (by kernel_rfl) (by kernel_rfl)) <| .cons (.pl Q2 rfl rfl rfl rfl (by kernel_rfl) (by kernel_rfl)) <| .cons (.df ze9 ([.s 4,.s 5],Va) [4,5] [4,5] qK zgj rfl rfl rfl rfl rfl (by kernel_rfl) (by kernel_rfl) rfl (by kernel_rfl) rfl rfl) <| .cons (.pl Xt rfl rfl rfl rfl (by kernel_rfl) (by kernel_rfl)) <| .cons (.pl YD rfl rfl rfl rfl (by kernel_rfl) (by kernel_rfl)) <| .cons (.pl Xo rfl rfl rfl rfl (by kernel_rfl) (by kernel_rfl)) <| .cons (.pl WU rfl rfl rfl rfl (by kernel_rfl) (by kernel_rfl)) <| .cons (.pl W0 rfl rfl rfl rfl (by kernel_rfl) (by kernel_rfl)) <| .cons (.pl kG rfl rfl rfl rfl (by kernel_rfl) (by kernel_rfl)) <| .cons (.pl XC rfl rfl rfl rfl (by kernel_rfl) (by kernel_rfl)) <| .cons (.pl kI rfl rfl rfl rfl (by kernel_rfl) (by kernel_rfl)) <| .cons (.pl qx rfl rfl rfl rfl (by kernel_rfl) (by kernel_rfl)) <| .cons (.pl yV rfl rfl rfl rfl (by kernel_rfl) (by kernel_rfl)) <| .cons (.pl YB rfl rfl rfl rfl (by kernel_rfl) (by kernel_rfl)) <| .cons (.pl zaB rfl rfl rfl rfl (by kernel_rfl) (by kernel_rfl)) <| .cons (.pl YM rfl rfl rfl rfl (by kernel_rfl) (by kernel_rfl)) <| .cons (.pl Xs rfl rfl rfl rfl (by kernel_rfl) (by kernel_rfl)) <| .cons (.pl XB rfl rfl rfl rfl (by kernel_rfl) (by kernel_rfl)) <| .cons (.pl zao rfl rfl rfl rfl (by kernel_rfl) (by kernel_rfl)) <| .cons (.ps Va rfl rfl (by kernel_rfl) (by kernel_rfl)) <| .cons (.pn Jc zcc (by kernel_rfl) rfl rfl rfl rfl rfl (by kernel_rfl) (by kernel_rfl)) <| .cons (.pl Xn rfl rfl rfl rfl (by kernel_rfl) (by kernel_rfl)) <| .cons (.pl XJ rfl rfl rfl rfl (by kernel_rfl) (by kernel_rfl)) <| .cons (.pl Yx rfl rfl rfl rfl (by kernel_rfl) (by kernel_rfl)) <| .cons (.pl Xv rfl rfl rfl rfl (by kernel_rfl) (by kernel_rfl)) <| .cons (.pl jz rfl rfl rfl rfl (by kernel_rfl) (by kernel_rfl)) <| .cons (.pl y9 rfl rfl rfl rfl (by kernel_rfl) (by kernel_rfl)) <| .cons (.pl Jk rfl rfl rfl rfl (by kernel_rfl) (by kernel_rfl)) <| .cons (.pl QO rfl rfl rfl rfl (by kernel_rfl) (by kernel_rfl)) <| .cons (.pl wF rfl rfl rfl rfl (by kernel_rfl) (by kernel_rfl)) <| .cons (.pl WX rfl rfl rfl rfl (by kernel_rfl) (by kernel_rfl)) <| .cons (.pn zez ze6 (by kernel_rfl) rfl rfl rfl rfl rfl (by kernel_rfl) (by kernel_rfl)) <| .cons (.pn Js Jn (by kernel_rfl) rfl rfl rfl rfl rfl (by kernel_rfl) (by kernel_rfl)) <| .cons (.pn ze2 zfn (by kernel_rfl) rfl rfl rfl rfl rfl (by kernel_rfl) (by kernel_rfl)) <| .cons (.pn zb4 zb3 (by kernel_rfl) rfl rfl rfl rfl rfl (by kernel_rfl) (by kernel_rfl)) <| .cons (.pn XS zeC (by kernel_rfl) rfl rfl rfl rfl rfl (by kernel_rfl) (by kernel_rfl)) <| .cons (.pn zbO zbK (by kernel_rfl) rfl rfl rfl rfl rfl (by kernel_rfl) (by kernel_rfl)) <| .cons (.pl WQ rfl rfl rfl rfl (by kernel_rfl) (by kernel_rfl)) <| .cons (.pl W8 rfl rfl rfl rfl (by kernel_rfl) (by kernel_rfl)) <| .cons (.pl YN rfl rfl rfl rfl (by kernel_rfl) (by kernel_rfl)) <| .cons (.pl ZB rfl rfl rfl rfl (by kernel_rfl) (by kernel_rfl)) <| .cons (.pl YE rfl rfl rfl rfl (by kernel_rfl) (by kernel_rfl)) <| .cons (.pl QY rfl rfl rfl rfl (by kernel_rfl) (by kernel_rfl)) <| .cons (.pl WT rfl rfl rfl rfl (by kernel_rfl) (by kernel_rfl)) <| .cons (.pl ZG rfl rfl rfl rfl (by kernel_rfl) (by kernel_rfl)) <| .cons (.pl Jy rfl rfl rfl rfl (by kernel_rfl) (by kernel_rfl)) <| .cons (.pl xM rfl rfl rfl rfl (by kernel_rfl) (by kernel_rfl)) <| .cons (.pl XK rfl rfl rfl rfl (by kernel_rfl) (by kernel_rfl)) <| .cons (.pl W7 rfl rfl rfl rfl (by kernel_rfl) (by kernel_rfl)) <| .cons (.pl vF rfl rfl rfl rfl (by kernel_rfl) (by kernel_rfl)) <| .cons (.pl Yy rfl rfl rfl rfl (by kernel_rfl) (by kernel_rfl)) <| .cons (.pl WY rfl rfl rfl rfl (by kernel_rfl) (by kernel_rfl)) <| .cons (.pl QB rfl rfl rfl rfl (by kernel_rfl) (by kernel_rfl)) <| .cons (.pl kJ rfl rfl rfl rfl (by kernel_rfl) (by kernel_rfl)) <| .cons (.pl kN rfl rfl rfl rfl (by kernel_rfl) (by kernel_rfl)) <| .cons (.pl Xr rfl rfl rfl rfl (by kernel_rfl) (by kernel_rfl)) <| .cons (.pl YH rfl rfl rfl rfl (by kernel_rfl) (by kernel_rfl)) <| .cons (.pl vK rfl rfl rfl rfl (by kernel_rfl) (by kernel_rfl)) <| .cons (.pl jZ rfl rfl rfl rfl (by kernel_rfl) (by kernel_rfl)) <| .cons (.pl YJ rfl rfl rfl rfl (by kernel_rfl) (by kernel_rfl)) <| .cons (.pl Qt rfl rfl rfl rfl (by kernel_rfl) (by kernel_rfl)) <| .cons (.pl vH rfl rfl rfl rfl (by kernel_rfl) (by kernel_rfl)) <| .cons (.pl QU rfl rfl rfl rfl (by kernel_rfl) (by kernel_rfl)) <| .cons (.pl Xk rfl rfl rfl rfl (by kernel_rfl) (by kernel_rfl)) <| .cons (.pl Xw rfl rfl rfl rfl (by kernel_rfl) (by kernel_rfl)) <| .cons (.pl WZ rfl rfl rfl rfl (by kernel_rfl) (by kernel_rfl)) <| .cons (.pl WM rfl rfl rfl rfl (by kernel_rfl) (by kernel_rfl)) <| .cons (.pl XL rfl rfl rfl rfl (by kernel_rfl) (by kernel_rfl)) <| .cons (.pl wg rfl rfl rfl rfl (by kernel_rfl) (by kernel_rfl)) <| .cons (.pl wQ rfl rfl rfl rfl (by kernel_rfl) (by kernel_rfl)) <| .cons (.pl YI rfl rfl rfl rfl (by kernel_rfl) (by kernel_rfl)) <| .cons (.pl QS rfl rfl rfl rfl (by kernel_rfl) (by kernel_rfl)) <| .cons (.pl vJ rfl rfl rfl rfl (by kernel_rfl) (by kernel_rfl)) <| .cons (.pl Xp rfl rfl rfl rfl (by kernel_rfl) (by kernel_rfl)) <| .cons (.pl qQ rfl rfl rfl rfl (by kernel_rfl) (by kernel_rfl)) <| .cons (.pl Zo rfl rfl rfl rfl (by kernel_rfl) (by kernel_rfl)) <| .cons (.pl zdx rfl rfl rfl rfl (by kernel_rfl) (by kernel_rfl)) <| .cons (.pl vL rfl rfl rfl rfl (by kernel_rfl) (by kernel_rfl)) <| .cons (.pl Xx rfl rfl rfl rfl (by kernel_rfl) (by kernel_rfl)) <| .cons (.pl QI rfl rfl rfl rfl (by kernel_rfl) (by kernel_rfl)) <| .cons (.pl xU rfl rfl rfl rfl (by kernel_rfl) (by kernel_rfl)) <| .cons (.pl Xj rfl rfl rfl rfl (by kernel_rfl) (by kernel_rfl)) <| .cons (.pl YL rfl rfl rfl rfl (by kernel_rfl) (by kernel_rfl)) <| .cons (.pl QK rfl rfl rfl rfl (by kernel_rfl) (by kernel_rfl)) <| .cons (.pl WN rfl rfl rfl rfl (by kernel_rfl) (by kernel_rfl)) <| .nil) rfl rfl (fun _=>rfl) fun f x hx=>⟨?_,hx⟩
 have hx:ex0 f=some x:=hx;unfold ex0 at hx;split at hx<;>first | contradiction | decide
theorem zB6:zza E1 gl0 zqA:=by
 refine⟨fun f k g h hg => ?_,fun f e h => ?_⟩
 ·have hg:tx0 f=some g:=hg;unfold tx0 at hg;split at hg<;>first | contradiction | skip
  ·injection hg with hg;subst hg;exact⟨_,rfl,zcO _ _⟩
  ·injection hg with hg;subst hg;exact⟨_,rfl,zcO _ _⟩
  ·injection hg with hg;subst hg;exact⟨_,rfl,zic _ _⟩
  ·injection hg with hg;subst hg;exact⟨_,rfl,zic _ _⟩
 ·have h:md0 f = .eff e:=h;unfold md0 at h;split at h<;>first | contradiction | skip
end Go.Ev

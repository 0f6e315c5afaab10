/- The functions' table stands for the loaded program's. -/
import Derived.Test.YtnefgdahdccldaaDoorKTx
import Derived.Test.YtnefgdahdccldaaDoorProg
import Derived.KernelRfl
set_option linter.all false
namespace Go.Ev
open Go.Proofs.Tryd
theorem zae:Plain prog (yR prog) vt qx:=
 pl1 Vo Vw func4 (by kernel_rfl)
theorem zdJ:Plain prog (yR prog) xF Yt:=
 pl1 zaz zaH func6 (by kernel_rfl)
theorem zd0:Plain prog (yR prog) ql Yv:=
 pl1 zau zaI func8 (by kernel_rfl)
theorem zf0:Plain prog (yR prog) qQ Xe:=
 pl1 zdp zcj func9 (by kernel_rfl)
theorem zi7:Plain prog (yR prog) k9 Wv:=
 pl1 zff zfk func10 (by kernel_rfl)
theorem ziR:Plain prog (yR prog) jO WA:=
 pl1 zft zfE func11 (by kernel_rfl)
theorem za6:Plain prog (yR prog) wR kx:=
 pl1 Q9 Q0 func12 (by kernel_rfl)
theorem ziO:Plain prog (yR prog) vn WG:=
 pl1 zfo zfw func13 (by kernel_rfl)
theorem zab:Plain prog (yR prog) yY jS:=
 pl1 Vm Vu func14 (by kernel_rfl)
theorem zjs:Plain prog (yR prog) QI zbL:=
 pl1 zhf ziH func17 (by kernel_rfl)
theorem zgi:Plain prog (yR prog) vg Y9:=
 pl1 zcb zch func18 (by kernel_rfl)
theorem zdE:Plain prog (yR prog) jg Yo:=
 pl1 za2 za0 func19 (by kernel_rfl)
theorem zf7:Plain prog (yR prog) xo Xl:=
 pl1 zdg zdf func20 (by kernel_rfl)
theorem zhc:Plain prog (yR prog) jM WL:=
 pl1 zfe zfp func21 (by kernel_rfl)
theorem zjD:Plain prog (yR prog) Yb Qx:=
 pl1 zjk zit func22 (by kernel_rfl)
theorem zbT:Plain prog (yR prog) v6 kA:=
 pl1 Q7 Jb func23 (by kernel_rfl)
theorem Qr:Plain prog (yR prog) xY qt:=
 pl1 Y2 Y3 func24 (by kernel_rfl)
theorem zm4:Plain prog (yR prog) zd2 zeC:=
 pl1 zlc zkD func25 (by kernel_rfl)
theorem zgf:Plain prog (yR prog) QU QP:=
 pl1 zb2 zcZ func26 (by kernel_rfl)
theorem zmh:Plain prog (yR prog) zez zeS:=
 pl1 zkv zky func27 (by kernel_rfl)
theorem zjS:Plain prog (yR prog) zbz zby:=
 pl1 zhm zgC func28 (by kernel_rfl)
theorem zm6:Plain prog (yR prog) Xz zd6:=
 pl1 zkS zk4 func29 (by kernel_rfl)
theorem zkc:Plain prog (yR prog) zbj zbg:=
 pl1 zhe zic func30 (by kernel_rfl)
theorem zji:Plain prog (yR prog) wc Ws:=
 pl1 zfI zfA func31 (by kernel_rfl)
theorem zb9:Plain prog (yR prog) qD Zq:=
 pl1 JF Kz func32 (by kernel_rfl)
theorem zh8:Plain prog (yR prog) kR WF:=
 pl1 zfN zfi func33 (by kernel_rfl)
theorem zes:Plain prog (yR prog) jf Yu:=
 pl1 zaC zao func34 (by kernel_rfl)
theorem zeM:Plain prog (yR prog) jl YD:=
 pl1 zaw zat func35 (by kernel_rfl)
theorem zci:Plain prog (yR prog) vD Zw:=
 pl1 Jw JO func36 (by kernel_rfl)
theorem zgh:Plain prog (yR prog) vj Xg:=
 pl1 zcF zdy func37 (by kernel_rfl)
theorem jz:Plain prog (yR prog) yc yV:=
 pl1 wU wY func38 (by kernel_rfl)
theorem zdS:Plain prog (yR prog) wu Yr:=
 pl1 zaS zaM func39 (by kernel_rfl)
theorem zmA:Plain prog (yR prog) qa zaa:=
 pl1 zkt zk9 func40 (by kernel_rfl)
theorem zeH:Plain prog (yR prog) vq YC:=
 pl1 zaK zaR func41 (by kernel_rfl)
theorem zfX:Plain prog (yR prog) qg Xd:=
 pl1 zcX zdb func42 (by kernel_rfl)
theorem zf6:Plain prog (yR prog) qb Xk:=
 pl1 zb4 zda func43 (by kernel_rfl)
theorem zmu:Plain prog (yR prog) ZY KV:=
 pl1 zlj zkV func44 (by kernel_rfl)
theorem JP:Plain prog (yR prog) wI jw:=
 pl1 WD Wn func45 (by kernel_rfl)
theorem zis:Plain prog (yR prog) jN Wy:=
 pl1 zfj zeV func46 (by kernel_rfl)
theorem zj0:Plain prog (yR prog) kP V5:=
 pl1 zjn zhZ func47 (by kernel_rfl)
theorem zbr:Plain prog (yR prog) xv kB:=
 pl1 Q5 Q6 func48 (by kernel_rfl)
theorem Jq:Plain prog (yR prog) y9 kF:=
 pl1 X8 XR func49 (by kernel_rfl)
theorem zfV:Plain prog (yR prog) j4 Xc:=
 pl1 zcw zcN func50 (by kernel_rfl)
theorem zd4:Plain prog (yR prog) qo Yx:=
 pl1 zaJ zan func51 (by kernel_rfl)
theorem W4:Plain prog (yR prog) yU vN:=
 pl1 ZM ZN func52 (by kernel_rfl)
theorem zaf:Plain prog (yR prog) wl jU:=
 pl1 Vy VR func53 (by kernel_rfl)
theorem zeJ:Plain prog (yR prog) jh Yz:=
 pl1 zaU zaW func54 (by kernel_rfl)
theorem zjI:Plain prog (yR prog) Z9 VY:=
 pl1 zhG ziW func55 (by kernel_rfl)
theorem Vi:Plain prog (yR prog) xn vK:=
 pl1 ZH ZJ func56 (by kernel_rfl)
theorem zj3:Plain prog (yR prog) kG Qq:=
 pl1 zi6 zgM func57 (by kernel_rfl)
theorem zga:Plain prog (yR prog) w8 Y5:=
 pl1 zcs zcc func58 (by kernel_rfl)
theorem zke:Plain prog (yR prog) kM QY:=
 pl1 zgP zg3 func59 (by kernel_rfl)
theorem kg:Plain prog (yR prog) yK xf:=
 pl1 vR vS func60 (by kernel_rfl)
theorem zjW:Plain prog (yR prog) kJ QM:=
 pl1 zin zhx func61 (by kernel_rfl)
theorem zjZ:Plain prog (yR prog) qU Qj:=
 pl1 ziw zjj func62 (by kernel_rfl)
theorem Y8:Plain prog (yR prog) xi wx:=
 pl1 kv kn func63 (by kernel_rfl)
theorem zhn:Plain prog (yR prog) jJ Wx:=
 pl1 ze7 zfu func64 (by kernel_rfl)
theorem zkj:Plain prog (yR prog) jE Qo:=
 pl1 zh6 zgY func65 (by kernel_rfl)
theorem W0:Plain prog (yR prog) yT vM:=
 pl1 ZK ZR func66 (by kernel_rfl)
theorem YT:Plain prog (yR prog) yt wg:=
 pl1 j7 j6 func67 (by kernel_rfl)
theorem zfU:Plain prog (yR prog) vd Xa:=
 pl1 zcq zcC func68 (by kernel_rfl)
theorem Wb:Plain prog (yR prog) xx qR:=
 pl1 ZA Zr func72 (by kernel_rfl)
theorem zdn:Plain prog (yR prog) vw Zd:=
 pl1 JN Ki func73 (by kernel_rfl)
theorem zoo:Plain prog (yR prog) XO zc1:=
 pl1 znD zpn func74 (by kernel_rfl)
theorem WY:Plain prog (yR prog) xC vO:=
 pl1 ZT ZU func75 (by kernel_rfl)
theorem zf5:Plain prog (yR prog) j3 Xh:=
 pl1 zcJ zco func76 (by kernel_rfl)
theorem zhX:Plain prog (yR prog) jG Wz:=
 pl1 zfG zfc func77 (by kernel_rfl)
theorem ziy:Plain prog (yR prog) jH Wo:=
 pl1 zfD zfy func78 (by kernel_rfl)
theorem zfW:Plain prog (yR prog) jR Xs:=
 pl1 zdz zcY func79 (by kernel_rfl)
theorem ZD:Plain prog (yR prog) yr xL:=
 pl1 qX qW func80 (by kernel_rfl)
theorem zfQ:Plain prog (yR prog) wz Xr:=
 pl1 zca zdi func81 (by kernel_rfl)
theorem zgI:Plain prog (yR prog) jF WE:=
 pl1 zfb ze5 func82 (by kernel_rfl)
theorem Vk:Plain prog (yR prog) wj vI:=
 pl1 ZG ZV func83 (by kernel_rfl)
theorem zeP:Plain prog (yR prog) jd YB:=
 pl1 zaN za3 func89 (by kernel_rfl)
theorem zfT:Plain prog (yR prog) qM Y4:=
 pl1 zdt zdd func90 (by kernel_rfl)
theorem zer:Plain prog (yR prog) vk Yy:=
 pl1 zaE zaO func91 (by kernel_rfl)
theorem zjG:Plain prog (yR prog) Yh Qc:=
 pl1 zgG zgV func92 (by kernel_rfl)
theorem XU:Plain prog (yR prog) xq wM:=
 pl1 vQ vU func93 (by kernel_rfl)
theorem zjK:Plain prog (yR prog) kO Qe:=
 pl1 ziL zhY func96 (by kernel_rfl)
theorem ziM:Plain prog (yR prog) jL Wp:=
 pl1 zfz zfm func97 (by kernel_rfl)
theorem Z6:Plain prog (yR prog) yf xU:=
 pl1 wN wK func98 (by kernel_rfl)
theorem zmB:Dfr prog (yR prog) jm zeF ([.s 4,.s 5],WH):=
 ⟨f7,f16,_,_,_,_,_,_,_,_,_,_,_,_,(kl [[2,3,4,5],[2,3,4,5],[4,5]]),(kd []),(kl [[],[0,1,2,7],[0,1,2,4],[0,1,2,14],[0,1]]),(kd []),[4,5],16,[2,3,4,5],func7,by kernel_rfl,rfl,rfl,by kernel_rfl,by kernel_rfl,by kernel_rfl,rfl,by kernel_rfl,
  by first | exact .inl ⟨_,_,_,_,_,rfl,rfl,rfl,rfl,rfl,rfl,rfl,rfl,rfl,rfl⟩ | exact .inr ⟨_,_,rfl,rfl,rfl,rfl⟩,rfl,by kernel_rfl,by decide,func16,by kernel_rfl,rfl,⟨_,_,_,_,rfl,rfl,rfl,rfl,rfl,rfl,rfl,by decide⟩,by kernel_rfl,by kernel_rfl,rfl,rfl,by decide⟩
set_option maxRecDepth 100000 in
theorem zAQ:zll prog (yR prog) E0:=
 zwL (l:=zyI) (dl:=zyT) (.cons zae <| .cons zdJ <| .dfr zmB <| .cons zd0 <| .cons zf0 <| .cons zi7 <| .cons ziR <| .cons za6 <| .cons ziO <| .cons zab <| .cons zjs <| .cons zgi <| .cons zdE <| .cons zf7 <| .cons zhc <| .cons zjD <| .cons zbT <| .cons Qr <| .cons zm4 <| .cons zgf <| .cons zmh <| .cons zjS <| .cons zm6 <| .cons zkc <| .cons zji <| .cons zb9 <| .cons zh8 <| .cons zes <| .cons zeM <| .cons zci <| .cons zgh <| .cons jz <| .cons zdS <| .cons zmA <| .cons zeH <| .cons zfX <| .cons zf6 <| .cons zmu <| .cons JP <| .cons zis <| .cons zj0 <| .cons zbr <| .cons Jq <| .cons zfV <| .cons zd4 <| .cons W4 <| .cons zaf <| .cons zeJ <| .cons zjI <| .cons Vi <| .cons zj3 <| .cons zga <| .cons zke <| .cons kg <| .cons zjW <| .cons zjZ <| .cons Y8 <| .cons zhn <| .cons zkj <| .cons W0 <| .cons YT <| .cons zfU <| .cons Wb <| .cons zdn <| .cons zoo <| .cons WY <| .cons zf5 <| .cons zhX <| .cons ziy <| .cons zfW <| .cons ZD <| .cons zfQ <| .cons zgI <| .cons Vk <| .cons zeP <| .cons zfT <| .cons zer <| .cons zjG <| .cons XU <| .cons zjK <| .cons ziM <| .cons Z6 <| .nil _ _ _) rfl rfl zA1 zAe
set_option maxRecDepth 100000 in
theorem zAT:zh2 E0 E1 mk0:=by
 refine zvJ (l:=zwO) (.cons (.pl qx rfl rfl rfl rfl (by kernel_rfl) (by kernel_rfl)) <| .cons (.pl Yt rfl rfl rfl rfl (by kernel_rfl) (by kernel_rfl)) <| .cons (.df zeF ([.s 4,.s 5],WH) [4,5] [4,5] qK zfM rfl rfl rfl rfl rfl (by kernel_rfl) (by kernel_rfl) rfl (by kernel_rfl) rfl rfl) <| .cons (.pl Yv rfl rfl rfl rfl (by kernel_rfl) (by kernel_rfl)) <| .cons (.pl Xe rfl rfl rfl rfl (by kernel_rfl) (by kernel_rfl)) <| .cons (.pl Wv rfl rfl rfl rfl (by kernel_rfl) (by kernel_rfl)) <| .cons (.pl WA rfl rfl rfl rfl (by kernel_rfl) (by kernel_rfl)) <| .cons (.pl kx rfl rfl rfl rfl (by kernel_rfl) (by kernel_rfl)) <| .cons (.pl WG rfl rfl rfl rfl (by kernel_rfl) (by kernel_rfl)) <| .cons (.pl jS rfl rfl rfl rfl (by kernel_rfl) (by kernel_rfl)) <| .cons (.ps WH rfl rfl (by kernel_rfl) (by kernel_rfl)) <| .cons (.pn QI zbL (by kernel_rfl) rfl rfl rfl rfl rfl (by kernel_rfl) (by kernel_rfl)) <| .cons (.pl Y9 rfl rfl rfl rfl (by kernel_rfl) (by kernel_rfl)) <| .cons (.pl Yo rfl rfl rfl rfl (by kernel_rfl) (by kernel_rfl)) <| .cons (.pl Xl rfl rfl rfl rfl (by kernel_rfl) (by kernel_rfl)) <| .cons (.pl WL rfl rfl rfl rfl (by kernel_rfl) (by kernel_rfl)) <| .cons (.pl Qx rfl rfl rfl rfl (by kernel_rfl) (by kernel_rfl)) <| .cons (.pl kA rfl rfl rfl rfl (by kernel_rfl) (by kernel_rfl)) <| .cons (.pl qt rfl rfl rfl rfl (by kernel_rfl) (by kernel_rfl)) <| .cons (.pn zd2 zeC (by kernel_rfl) rfl rfl rfl rfl rfl (by kernel_rfl) (by kernel_rfl)) <| .cons (.pn QU QP (by kernel_rfl) rfl rfl rfl rfl rfl (by kernel_rfl) (by kernel_rfl)) <| .cons (.pn zez zeS (by kernel_rfl) rfl rfl rfl rfl rfl (by kernel_rfl) (by kernel_rfl)) <| .cons (.pn zbz zby (by kernel_rfl) rfl rfl rfl rfl rfl (by kernel_rfl) (by kernel_rfl)) <| .cons (.pn Xz zd6 (by kernel_rfl) rfl rfl rfl rfl rfl (by kernel_rfl) (by kernel_rfl)) <| .cons (.pn zbj zbg (by kernel_rfl) rfl rfl rfl rfl rfl (by kernel_rfl) (by kernel_rfl)) <| .cons (.pl Ws rfl rfl rfl rfl (by kernel_rfl) (by kernel_rfl)) <| .cons (.pl Zq rfl rfl rfl rfl (by kernel_rfl) (by kernel_rfl)) <| .cons (.pl WF rfl rfl rfl rfl (by kernel_rfl) (by kernel_rfl)) <| .cons (.pl Yu rfl rfl rfl rfl (by kernel_rfl) (by kernel_rfl)) <| .cons (.pl YD rfl rfl rfl rfl (by kernel_rfl) (by kernel_rfl)) <| .cons (.pl Zw rfl rfl rfl rfl (by kernel_rfl) (by kernel_rfl)) <| .cons (.pl Xg rfl rfl rfl rfl (by kernel_rfl) (by kernel_rfl)) <| .cons (.pl yV rfl rfl rfl rfl (by kernel_rfl) (by kernel_rfl)) <| .cons (.pl Yr rfl rfl rfl rfl (by kernel_rfl) (by kernel_rfl)) <| .cons (.pl zaa rfl rfl rfl rfl (by kernel_rfl) (by kernel_rfl)) <| .cons (.pl YC rfl rfl rfl rfl (by kernel_rfl) (by kernel_rfl)) <| .cons (.pl Xd rfl rfl rfl rfl (by kernel_rfl) (by kernel_rfl)) <| .cons (.pl Xk rfl rfl rfl rfl (by kernel_rfl) (by kernel_rfl)) <| .cons (.pl KV rfl rfl rfl rfl (by kernel_rfl) (by kernel_rfl)) <| .cons (.pl jw rfl rfl rfl rfl (by kernel_rfl) (by kernel_rfl)) <| .cons (.pl Wy rfl rfl rfl rfl (by kernel_rfl) (by kernel_rfl)) <| .cons (.pl V5 rfl rfl rfl rfl (by kernel_rfl) (by kernel_rfl)) <| .cons (.pl kB rfl rfl rfl rfl (by kernel_rfl) (by kernel_rfl)) <| .cons (.pl kF rfl rfl rfl rfl (by kernel_rfl) (by kernel_rfl)) <| .cons (.pl Xc rfl rfl rfl rfl (by kernel_rfl) (by kernel_rfl)) <| .cons (.pl Yx rfl rfl rfl rfl (by kernel_rfl) (by kernel_rfl)) <| .cons (.pl vN rfl rfl rfl rfl (by kernel_rfl) (by kernel_rfl)) <| .cons (.pl jU rfl rfl rfl rfl (by kernel_rfl) (by kernel_rfl)) <| .cons (.pl Yz rfl rfl rfl rfl (by kernel_rfl) (by kernel_rfl)) <| .cons (.pl VY rfl rfl rfl rfl (by kernel_rfl) (by kernel_rfl)) <| .cons (.pl vK rfl rfl rfl rfl (by kernel_rfl) (by kernel_rfl)) <| .cons (.pl Qq rfl rfl rfl rfl (by kernel_rfl) (by kernel_rfl)) <| .cons (.pl Y5 rfl rfl rfl rfl (by kernel_rfl) (by kernel_rfl)) <| .cons (.pl QY rfl rfl rfl rfl (by kernel_rfl) (by kernel_rfl)) <| .cons (.pl xf rfl rfl rfl rfl (by kernel_rfl) (by kernel_rfl)) <| .cons (.pl QM rfl rfl rfl rfl (by kernel_rfl) (by kernel_rfl)) <| .cons (.pl Qj rfl rfl rfl rfl (by kernel_rfl) (by kernel_rfl)) <| .cons (.pl wx rfl rfl rfl rfl (by kernel_rfl) (by kernel_rfl)) <| .cons (.pl Wx rfl rfl rfl rfl (by kernel_rfl) (by kernel_rfl)) <| .cons (.pl Qo rfl rfl rfl rfl (by kernel_rfl) (by kernel_rfl)) <| .cons (.pl vM rfl rfl rfl rfl (by kernel_rfl) (by kernel_rfl)) <| .cons (.pl wg rfl rfl rfl rfl (by kernel_rfl) (by kernel_rfl)) <| .cons (.pl Xa rfl rfl rfl rfl (by kernel_rfl) (by kernel_rfl)) <| .cons (.pl qR rfl rfl rfl rfl (by kernel_rfl) (by kernel_rfl)) <| .cons (.pl Zd rfl rfl rfl rfl (by kernel_rfl) (by kernel_rfl)) <| .cons (.pl zc1 rfl rfl rfl rfl (by kernel_rfl) (by kernel_rfl)) <| .cons (.pl vO rfl rfl rfl rfl (by kernel_rfl) (by kernel_rfl)) <| .cons (.pl Xh rfl rfl rfl rfl (by kernel_rfl) (by kernel_rfl)) <| .cons (.pl Wz rfl rfl rfl rfl (by kernel_rfl) (by kernel_rfl)) <| .cons (.pl Wo rfl rfl rfl rfl (by kernel_rfl) (by kernel_rfl)) <| .cons (.pl Xs rfl rfl rfl rfl (by kernel_rfl) (by kernel_rfl)) <| .cons (.pl xL rfl rfl rfl rfl (by kernel_rfl) (by kernel_rfl)) <| .cons (.pl Xr rfl rfl rfl rfl (by kernel_rfl) (by kernel_rfl)) <| .cons (.pl WE rfl rfl rfl rfl (by kernel_rfl) (by kernel_rfl)) <| .cons (.pl vI rfl rfl rfl rfl (by kernel_rfl) (by kernel_rfl)) <| .cons (.pl YB rfl rfl rfl rfl (by kernel_rfl) (by kernel_rfl)) <| .cons (.pl Y4 rfl rfl rfl rfl (by kernel_rfl) (by kernel_rfl)) <| .cons (.pl Yy rfl rfl rfl rfl (by kernel_rfl) (by kernel_rfl)) <| .cons (.pl Qc rfl rfl rfl rfl (by kernel_rfl) (by kernel_rfl)) <| .cons (.pl wM rfl rfl rfl rfl (by kernel_rfl) (by kernel_rfl)) <| .cons (.pl Qe rfl rfl rfl rfl (by kernel_rfl) (by kernel_rfl)) <| .cons (.pl Wp rfl rfl rfl rfl (by kernel_rfl) (by kernel_rfl)) <| .cons (.pl xU rfl rfl rfl rfl (by kernel_rfl) (by kernel_rfl)) <| .nil) rfl rfl (fun _=>rfl) fun f x hx=>⟨?_,hx⟩
 have hx:ex0 f=some x:=hx;unfold ex0 at hx;split at hx<;>first | contradiction | decide
theorem zBg:zx3 E1 gl0 zpt:=by
 refine⟨fun f k g h hg => ?_,fun f e h => ?_⟩
 ·have hg:tx0 f=some g:=hg;unfold tx0 at hg;split at hg<;>first | contradiction | skip
  ·injection hg with hg;subst hg;exact⟨_,rfl,zcm _ _⟩
  ·injection hg with hg;subst hg;exact⟨_,rfl,zcm _ _⟩
  ·injection hg with hg;subst hg;exact⟨_,rfl,zhw _ _⟩
  ·injection hg with hg;subst hg;exact⟨_,rfl,zhw _ _⟩
 ·have h:md0 f = .eff e:=h;unfold md0 at h;split at h<;>first | contradiction | skip
end Go.Ev

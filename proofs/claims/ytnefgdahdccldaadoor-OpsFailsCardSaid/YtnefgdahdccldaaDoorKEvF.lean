/- The machines Ev and Pv, part 6: an abstract machine over the translated code, proved sound once. -/
import Derived.Shelf.Spec.SlicesInsertGrow
import Derived.Shelf.Spec.SlicesGrow
import Derived.Deep.WholeRow
import Derived.Deep.AppendSrc
import Derived.Test.YtnefgdahdccldaaDoorKEvE
set_option linter.all false
open Option renaming map_eq_some_iff->zB
open Bool renaming and_eq_true->zG
open Nat renaming eq_of_beq_eq_true->zJ,le_refl->zR,mul_le_mul_right->zW
open List renaming getElem?_eq_getElem->zL,drop_eq_nil_of_le->zQ,take_of_length_le->zV,length_append->zZ
section
set_option linter.all false
set_option linter.unusedVariables false
namespace Go.Proofs
open Go.Shelf Go.RowKit Go.Lib
variable {P:Program} {ρ:Ren}
structure zuA(P:Program)(ρ:Ren)(k bw:Nat)(z:Value):Prop where
 mixed:P.follows .mixedOrders=true
 f22:Bears P (ρ.f 22) (Body2.n22 ρ)
 t0:P.underlying (ρ.t 0)=some (TypeDesc.tuple #[])
 a0 : ∀ w,(isAgg (ρ.t 0)).run P w = .ok false w
 z0 : ∀ w,(Go.sizeOf (ρ.t 0)).run P w = .ok 1 w
 v0 : ∀ w,(zeroValue (ρ.t 0)).run P w = .ok (Value.tuple #[]) w
 t3:P.underlying (ρ.t 3)=some (TypeDesc.int IntKind.i64)
 a3 : ∀ w,(isAgg (ρ.t 3)).run P w = .ok false w
 z3 : ∀ w,(Go.sizeOf (ρ.t 3)).run P w = .ok 1 w
 v3 : ∀ w,(zeroValue (ρ.t 3)).run P w = .ok (Value.int IntKind.i64 0) w
 t4:P.underlying (ρ.t 4)=some (TypeDesc.bool)
 a4 : ∀ w,(isAgg (ρ.t 4)).run P w = .ok false w
 z4 : ∀ w,(Go.sizeOf (ρ.t 4)).run P w = .ok 1 w
 v4 : ∀ w,(zeroValue (ρ.t 4)).run P w = .ok (Value.bool false) w
 t24:P.underlying (ρ.t 24)=some (TypeDesc.slice (ρ.t 9))
 a24 : ∀ w,(isAgg (ρ.t 24)).run P w = .ok false w
 z24 : ∀ w,(Go.sizeOf (ρ.t 24)).run P w = .ok 1 w
 v24 : ∀ w,(zeroValue (ρ.t 24)).run P w = .ok (Value.slice none 0 0) w
 i9 : ∃ i,P.info? (ρ.t 9)=some i/\i.zero=some z/\i.size=k/\i.bytes=bw
 zk:z.cells.size=k
 k0:0<k
theorem VS(w:World)(dT sT ty elem:TypeId)(k:Nat)(b o dLen dCap:Nat)(a:Addr)(sLen sCap:Nat)(cs:List Value)
  (hu:P.underlying dT=some (.slice elem)) (hs:(P.info? elem).map (·.size)=some k) (hn:cs.length=Nat.min sLen dLen*k)
  (hsrc : ∀ j v,cs[j]?=some v->w.cell? (a.add j)=some v) (hc : ∀ j,j<cs.length->(w.cell? ⟨b,o+j,none⟩).isSome=true) (hf : ∀ j,j<cs.length->w.frozen? ⟨b,o+j,none⟩=false) (h1 : ∀ v∈cs,v.oneCell'=true) :
  (Builtin.copy_ #[dT,sT] ty #[.slice (some ⟨b,o,none⟩) dLen dCap,.slice (some a) sLen sCap]).run P w = .ok (goInt (Nat.min sLen dLen)) (w.setCells b o cs):=by
 have hl:=run_loadCells_list (P:=P) w a cs hsrc;have hst:=run_storeCells_cells (P:=P) b o cs 0 w (by simpa using hc) (by simpa using hf) h1;cases hq:P.info? elem with
 | none=>simp[hq]at hs
 | some i=>
  have hi:i.size=k:=by simpa[hq]using hs
  simp[Builtin.copy_,run_underlying hu,Builtin.lenOf,Builtin.firstCells,sizeOf,typeInfo,hq,hi,<- hn,hl,hst]
set_option maxHeartbeats 4000000 in
set_option maxRecDepth 100000 in
theorem zoP{k bw:Nat}{z:Value}(L:zuA P ρ k bw z)(b off n c i vb voff m vc:Nat)(cs vs:List Value)(w:World)(hi:i<n)(hm:0<m)(hnc:n<=c)(hroom:c<n+m)(hbig:(n+m)*bw<=140737488355328)(h63:n+m<=140737488355328)
  (hcl:cs.length=n*k) (hvl:vs.length=m*k)
  (hcs : ∀ j v,cs[j]?=some v->w.cell? ⟨b,off+j,none⟩=some v)
  (hvs : ∀ j v,vs[j]?=some v->w.cell? ⟨vb,voff+j,none⟩=some v) (h1c : ∀ v∈cs,v.oneCell'=true) (h1v : ∀ v∈vs,v.oneCell'=true) :
  Calls P (ρ.f 22) #[.slice (some ⟨b,off,none⟩) n c,.int .i64 i,.slice (some ⟨vb,voff,none⟩) m vc] w fun e w'=>
   e = .returned (.slice (some ⟨w.heap.size,0,none⟩) (n+m) (grownCap w (n+m) c (ρ.t 9))) /\
   w'=(((w.alloc (.cells ((cs.take (i*k)).toArray++Builtin.zeroCells z.cells (n+m-i)++Builtin.zeroCells z.cells (grownCap w (n+m) c (ρ.t 9)-(n+m))) (ρ.t 9))).drew.setCells w.heap.size (i*k) vs).drew).setCells w.heap.size ((i+m)*k) (cs.drop (i*k)):=by
 have t0:=L.t0;have a0:=L.a0;have z0:=L.z0;have v0:=L.v0;have t3:=L.t3;have a3:=L.a3;have z3:=L.z3;have v3:=L.v3;have t4:=L.t4;have a4:=L.a4;have z4:=L.z4;have v4:=L.v4;have t24:=L.t24;have a24:=L.a24;have z24:=L.z24;have v24:=L.v24;have u0:=run_underlying L.t0;have u3:=run_underlying L.t3;have u4:=run_underlying L.t4;have u24:=run_underlying L.t24;have mixed:=L.mixed;have hk0:=L.k0;have hzk:=L.zk;obtain⟨i0,hi0,hz0,hzs,hzb⟩:=L.i9;have hik':i*k<=n*k:=zW _ (by omega);have hnmk:(n+m)*k=n*k+m*k:=zBW _ _ _;have himk:(i+m)*k=i*k+m*k:=zBW _ _ _;have hmk:0<m*k:=Nat.mul_pos hm hk0;have hnik:(n-i)*k=n*k-i*k:=Nat.sub_mul _ _ _;have hik2:i*k<n*k:=Nat.mul_lt_mul_of_pos_right hi hk0;have z9 : ∀ w,(Go.sizeOf (ρ.t 9)).run P w = .ok k w:=fun w=>by simp[Go.sizeOf,typeInfo,hi0,hzs]
 have hz1 : ¬ ((m:Int)=0):=by omega
 have hz2 : ¬ ((i:Int)=(n:Int)):=by omega
 have hz3:(c:Int)<(n:Int)+(m:Int):=by omega
 have hsz:(P.info? (ρ.t 9)).map (·.size)=some k:=by rw[hi0];simp[hzs]
 have hbw:b<w.heap.size:=block_lt_of_cell (hcs 0 _ (zL (by omega)));have hvw:vb<w.heap.size:=block_lt_of_cell (hvs 0 _ (zL (by omega)));have hkk:(n:Int)+(m:Int)-(i:Int)=((n+m-i:Nat):Int):=by omega
 have hik:i+(n+m-i)=n+m:=by omega
 have hbx:(n+m-i)*bw<=(n+m)*bw:=zW _ (by omega);have hold:(Builtin.firstCells i0.size i (.slice (some ⟨b,off,none⟩) i c)).run P w.drew = .ok (cs.take (i*k)).toArray w.drew:=by
  rw[hzs];exact run_firstCells_some w.drew k i ⟨b,off,none⟩ i c (cs.take (i*k)) (by rw[zBI];omega) (fun j v hj=>by
   rw[Addr.add_lit];rw[zBR]at hj;split at hj
   ·exact hcs j v hj
   ·cases hj)
 have hrz : ∀ ty,(Builtin.append_ #[(ρ.t 24),(ρ.t 3)] ty #[.slice (some ⟨b,off,none⟩) i c,.int .i64 ((n:Int)+(m:Int)-(i:Int))]).run P w =
   .ok (.slice (some ⟨w.heap.size,0,none⟩) (n+m) (grownCap w (n+m) c (ρ.t 9))) (w.drew.alloc (.cells ((cs.take (i*k)).toArray++Builtin.zeroCells z.cells (n+m-i)++Builtin.zeroCells z.cells (grownCap w (n+m) c (ρ.t 9)-(n+m))) (ρ.t 9))):=fun ty=>by
  have h:=Lib.run_append_grow_zeros w (ρ.t 24) (ρ.t 3) ty (ρ.t 9) i0 _ .i64 .i64 L.t24 L.t3 hi0 hz0 (some ⟨b,off,none⟩) i c (cs.take (i*k)) hold (n+m-i) (by omega) (by omega) (by omega) (by omega) (by rw[hzb];omega) (by rw[hzb,hik];exact growslice_fits hroom hbig);rw[hik]at h;rw[hkk];exact h
 obtain⟨G,hG⟩ : ∃ G,G=grownCap w (n+m) c (ρ.t 9):=⟨_,rfl⟩
 obtain⟨ROW,hROW⟩ : ∃ ROW:Array Value,ROW=(cs.take (i*k)).toArray++Builtin.zeroCells z.cells (n+m-i)++Builtin.zeroCells z.cells (G-(n+m)):=⟨_,rfl⟩
 rw[<- hG]at hrz ⊢;rw[<- hROW]at hrz ⊢;have hRl:(n+m)*k<=ROW.size:=by
  have h2:(n+m-i)*k=(n+m)*k-i*k:=Nat.sub_mul _ _ _;have h3:(Builtin.zeroCells z.cells (n+m-i)).size=(n+m-i)*k:=by simp[Builtin.zeroCells,hzk]
  rw[hROW,Array.size_append,Array.size_append,h3,List.size_toArray,zBI];omega
 obtain⟨W1,hW1⟩ : ∃ W1,W1=w.drew.alloc (.cells ROW (ρ.t 9)):=⟨_,rfl⟩
 rw[<- hW1]at hrz;have hN : ∀ j,j<(n+m)*k->(W1.cell? ⟨w.heap.size,j,none⟩).isSome=true:=fun j hj=>by rw[hW1,World.cell?_alloc_at (w:=w.drew) ROW _ w.heap.size j rfl,Array.getElem?_eq_getElem (by omega)];rfl
 have hNf : ∀ j,W1.frozen? ⟨w.heap.size,j,none⟩=false:=fun j=>by rw[hW1];exact World.frozen?_alloc_at (w:=w.drew) ROW _ w.heap.size j rfl
 have hOb : ∀ j v,w.cell? ⟨b,j,none⟩=some v->W1.cell? ⟨b,j,none⟩=some v:=fun j v h=>by rw[hW1,World.cell?_alloc_past (w:=w.drew) _ b j hbw];exact h
 have hOv : ∀ j v,w.cell? ⟨vb,j,none⟩=some v->W1.cell? ⟨vb,j,none⟩=some v:=fun j v h=>by rw[hW1,World.cell?_alloc_past (w:=w.drew) _ vb j hvw];exact h
 have hcpA : ∀ (W:World),(∀ x,W.cell? x=W1.cell? x)->(∀ x,W.frozen? x=W1.frozen? x) -> ∀ ty dc,(Builtin.copy_ #[(ρ.t 24),(ρ.t 24)] ty #[.slice (some ⟨w.heap.size,i*k,none⟩) (n+m-i) dc,.slice (some ⟨vb,voff,none⟩) m vc]).run P W = .ok (goInt (Nat.min m (n+m-i))) (W.setCells w.heap.size (i*k) vs):=fun W hWc hWf ty dc=>
  VS W _ _ ty (ρ.t 9) k w.heap.size (i*k) (n+m-i) dc ⟨vb,voff,none⟩ m vc vs L.t24 hsz (by rw[hvl];congr 1;exact(Nat.min_eq_left (by omega)).symm)
   (fun j v hj=>by rw[Addr.add_lit,hWc];exact hOv _ v (hvs j v hj))
   (fun j hj=>by rw[hWc];exact hN _ (by omega)) (fun j hj=>by rw[hWf];exact hNf _) h1v
 have hGn:n+m<=G:=by rw[hG];exact grownCap_ge w _ _ _
 have hG63:G<=9223372036854775807:=by have:=grownCap_le_maxLen w (n+m) c (ρ.t 9) (by unfold maxLen;omega);rw[<- hG]at this;unfold maxLen at this;omega
 have hGi : ¬ (G=i):=by omega
 have hGim : ¬ (G=i+m):=by omega
 have hci : ¬ (c=i):=by omega
 have hbN:b≠w.heap.size:=by omega
 have hdl:(cs.drop (i*k)).length=(n-i)*k:=by rw[zBJ,hcl,hnik]
 have hcpB : ∀ (W:World),(∀ x,W.cell? x=(W1.setCells w.heap.size (i*k) vs).cell? x)->(∀ x,W.frozen? x=(W1.setCells w.heap.size (i*k) vs).frozen? x) -> ∀ ty dc sc,(Builtin.copy_ #[(ρ.t 24),(ρ.t 24)] ty #[.slice (some ⟨w.heap.size,(i+m)*k,none⟩) (n+m-(i+m)) dc,.slice (some ⟨b,off+i*k,none⟩) (n-i) sc]).run P W = .ok (goInt (Nat.min (n-i) (n+m-(i+m)))) (W.setCells w.heap.size ((i+m)*k) (cs.drop (i*k))):=fun W hWc hWf ty dc sc=>
  VS W _ _ ty (ρ.t 9) k w.heap.size ((i+m)*k) (n+m-(i+m)) dc ⟨b,off+i*k,none⟩ (n-i) sc (cs.drop (i*k)) L.t24 hsz (by rw[hdl];congr 1;exact(Nat.min_eq_left (by omega)).symm)
   (fun j v hj=>by rw[Addr.add_lit,hWc,World.cell?_setCells_out _ _ _ _ _ (fun h _=>absurd h hbN),Nat.add_assoc];exact hOb _ v (hcs (i*k+j) v (by rwa [zBS]at hj)))
   (fun j hj=>by rw[hWc];exact isSome_setCells _ _ _ _ (fun t ht=>hN _ (by omega)) _ (hN _ (by omega)))
   (fun j hj=>by rw[hWf,World.frozen?_setCells];exact hNf _) (fun v hv=>h1c v (List.mem_of_mem_drop hv))
 subst hW1;have hE1 : ∀ x,((w.alloc (.cells ROW (ρ.t 9))).drew).cell? x=(w.drew.alloc (.cells ROW (ρ.t 9))).cell? x:=fun x=>rfl
 have hE2 : ∀ x,((w.alloc (.cells ROW (ρ.t 9))).drew).frozen? x=(w.drew.alloc (.cells ROW (ρ.t 9))).frozen? x:=fun x=>rfl
 have hF1 : ∀ x,(((w.alloc (.cells ROW (ρ.t 9))).drew.setCells w.heap.size (i*k) vs).drew).cell? x=((w.drew.alloc (.cells ROW (ρ.t 9))).setCells w.heap.size (i*k) vs).cell? x:=fun x=>rfl
 have hF2 : ∀ x,(((w.alloc (.cells ROW (ρ.t 9))).drew.setCells w.heap.size (i*k) vs).drew).frozen? x=((w.drew.alloc (.cells ROW (ρ.t 9))).setCells w.heap.size (i*k) vs).frozen? x:=fun x=>rfl
 have hw1:IntKind.i64.wrap ((i:Int)+(m:Int))=(i:Int)+(m:Int):=by rw[IntKind.wrap_i64];omega
 have hb1:(0:Int)<=(i:Int)+(m:Int):=by omega
 have hin:i<=n:=by omega
 have htn:((i:Int)+(m:Int)).toNat=i+m:=by omega
 have hb3:(i:Int)<=(n:Int):=by omega
 clear hkk hik hold hROW hG hRl hbx;clear hik' hnmk himk hmk hnik hik2;obtain⟨_,_,FG⟩:=L.f22
 go_enter FG,Body2.n22_ntmps ρ
 go_wp2_with (first
  | (at_builtin;refine Lib.wpList_append_run _ rfl _ _ _ _ rfl _ _ rfl rfl _ _ (hrz _) ?_)
  | (at_builtin;refine wpList_copy_runI _ rfl _ _ (ρ.t 24) (ρ.t 24) rfl _ _ rfl rfl (hcpA _ hE1 hE2 _ _) ?_)
  | (at_builtin;refine wpList_copy_runI _ rfl _ _ (ρ.t 24) (ρ.t 24) rfl _ _ rfl rfl (hcpB _ (fun _=>rfl) (fun _=>rfl) _ _ _) ?_))
 go_region_law_o (refine step_copy_runI rfl _ _ (ρ.t 24) (ρ.t 24) rfl (.slice (some ⟨w.heap.size,(i+m)*k,none⟩) (n+m-(i+m)) (G-(i+m))) (.slice (some ⟨b,off+i*k,none⟩) (n-i) (c-i)) (by simp[Act.eval,Act.put]) (by simp[Act.eval,Act.put]) (hcpB _ hF1 hF2 (ρ.t 3) (G-(i+m)) (c-i)) ?_)
 go_wp2
 go_ret
 exact⟨rfl,rfl⟩
set_option maxHeartbeats 4000000 in
set_option maxRecDepth 100000 in
theorem zp2{k bw:Nat}{z:Value}(L:zuA P ρ k bw z)(base:Option Addr)(n c vb voff m vc:Nat)(cs vs:List Value)(w:World)(hm:0<m)(hnc:n<=c)(hroom:c<n+m)(hbig:(n+m)*bw<=140737488355328)(h63:n+m<=140737488355328)
  (hcl:cs.length=n*k) (hvl:vs.length=m*k) (hnil:base=none->n=0)
  (hcs : ∀ a,base=some a -> ∀ j v,cs[j]?=some v->w.cell? (a.add j)=some v)
  (hvs : ∀ j v,vs[j]?=some v->w.cell? ⟨vb,voff+j,none⟩=some v) (h1v : ∀ v∈vs,v.oneCell'=true) :
  Calls P (ρ.f 22) #[.slice base n c,.int .i64 n,.slice (some ⟨vb,voff,none⟩) m vc] w fun e w'=>
   e = .returned (.slice (some ⟨w.heap.size,0,none⟩) (n+m) (grownCap w (n+m) c (ρ.t 9))) /\
   w'=w.drew.alloc (.cells ((cs++vs).toArray++Builtin.zeroCells z.cells (grownCap w (n+m) c (ρ.t 9)-(n+m))) (ρ.t 9)):=by
 have t0:=L.t0;have a0:=L.a0;have z0:=L.z0;have v0:=L.v0;have t3:=L.t3;have a3:=L.a3;have z3:=L.z3;have v3:=L.v3;have t4:=L.t4;have a4:=L.a4;have z4:=L.z4;have v4:=L.v4;have t24:=L.t24;have a24:=L.a24;have z24:=L.z24;have v24:=L.v24;have u0:=run_underlying L.t0;have u3:=run_underlying L.t3;have u4:=run_underlying L.t4;have u24:=run_underlying L.t24;have mixed:=L.mixed;have hk0:=L.k0;obtain⟨i0,hi0,hz0,hzs,hzb⟩:=L.i9;have z9 : ∀ w,(Go.sizeOf (ρ.t 9)).run P w = .ok k w:=fun w=>by simp[Go.sizeOf,typeInfo,hi0,hzs]
 have hz1 : ¬ ((m:Int)=0):=by omega
 have hsrc:Src P i0.size (ρ.t 24) (.slice (some ⟨vb,voff,none⟩) m vc) m vs w:=by rw[hzs];exact Src.ofSlice w L.t24 ⟨vb,voff,none⟩ m vc vs hvl (fun j u hj=>by rw[Addr.add_lit];exact hvs j u hj) h1v
 have hold:(Builtin.firstCells i0.size n (.slice base n c)).run P w.drew = .ok cs.toArray w.drew:=by
  rw[hzs];cases base with
  | none=>have h0:=hnil rfl;subst h0;have hce:cs=[]:=List.length_eq_zero_iff.1 (by rw[hcl];simp);rw[hce];exact run_firstCells_none w.drew k 0 0 c
  | some a=>exact run_firstCells_some w.drew k n a n c cs hcl (fun j v hj=>hcs a rfl j v hj)
 have hrun : ∀ ty,(Builtin.append_ #[(ρ.t 24),(ρ.t 24)] ty #[.slice base n c,.slice (some ⟨vb,voff,none⟩) m vc]).run P w=_:=fun ty=>run_append_grow_src w (ρ.t 24) (ρ.t 24) ty (ρ.t 9) i0 _ L.t24 hi0 hz0 base n c cs hold _ m vs hsrc hroom (by omega) (by rw[hzb];exact growslice_fits hroom hbig)
 obtain⟨_,_,FG⟩:=L.f22
 go_enter FG,Body2.n22_ntmps ρ
 cases base with
 | none=>
  have h0:=hnil rfl;subst h0
  go_wp2_with (at_builtin;refine Lib.wpList_append_run _ rfl _ _ _ _ rfl _ _ rfl rfl _ _ (hrun _) ?_)
  all_goals (go_ret;exact⟨rfl,rfl⟩)
 | some a=>
  obtain⟨ab,ao,asp⟩:=a
  go_wp2_with (at_builtin;refine Lib.wpList_append_run _ rfl _ _ _ _ rfl _ _ rfl rfl _ _ (hrun _) ?_)
  all_goals (go_ret;exact⟨rfl,rfl⟩)
theorem zc5(P:Program){w:World}{g o:Nat}{cur:Array Value}{t:TypeId}{vs:List Value}(hg:w.heap[g]?=some (.cells cur t (0,0)))(hl:o+vs.length<=cur.size)(h1 : ∀ v∈vs,v.oneCell'=true) :
  w.setCells g o vs=w.setRow g (cur.toList.take o++vs++cur.toList.drop (o+vs.length)).toArray:=by
 have h2:=run_storeCells_at P g o t vs 0 cur w hg (by simpa using hl) h1;have hc : ∀ j,j<vs.length->w.cell? ⟨g,o+0+j,none⟩=some (cur[o+j]!):=fun j hj=>by
  have hlt:o+j<cur.size:=by omega
  simp[World.cell?,hg,hlt]
 have h3:=run_storeCells_cells (P:=P) g o vs 0 w (fun j hj=>by rw[hc j hj];rfl) (fun j hj=>by simp[World.frozen?,hg]) h1;rw[h2]at h3;simp only[zBF]at h3;injection h3 with _ h3;exact h3.symm
theorem ztI{k bw:Nat}{z:Value}(L:zuA P ρ k bw z)(A:Option Addr)(b off n i vb voff m vc:Nat)(cs vs:List Value)(w:World)(hA:n=0\/A=some ⟨b,off,none⟩)(hi:i<=n)(hm:0<m)(hbig:(n+m)*bw<=140737488355328)(h63:n+m<=140737488355328)
  (hcl:cs.length=n*k) (hvl:vs.length=m*k)
  (hcs : ∀ j v,cs[j]?=some v->w.cell? ⟨b,off+j,none⟩=some v)
  (hvs : ∀ j v,vs[j]?=some v->w.cell? ⟨vb,voff+j,none⟩=some v) (h1c : ∀ v∈cs,v.oneCell'=true) (h1v : ∀ v∈vs,v.oneCell'=true) :
  Calls P (ρ.f 22) #[.slice A n n,.int .i64 i,.slice (some ⟨vb,voff,none⟩) m vc] w fun e w' => ∃ (G:Nat) (rest:List Value) (w0:World),(w0=w.drew\/w0=w.drew.drew)/\n+m<=G /\
   e = .returned (.slice (some ⟨w.heap.size,0,none⟩) (n+m) G)/\w'=w0.alloc (.cells (cs.take (i*k)++vs++cs.drop (i*k)++rest).toArray (ρ.t 9)):=by
 have hk0:=L.k0;have hzk:=L.zk;have hG:=grownCap_ge w (n+m) n (ρ.t 9);rcases zBD i n with hin | hin
 ·have hA:A=some ⟨b,off,none⟩:=hA.resolve_left (by omega);subst hA;refine(zoP L b off n n i vb voff m vc cs vs w hin hm (zR _) (by omega) hbig h63 hcl hvl hcs hvs h1c h1v).mono ?_;rintro e w' ⟨rfl,rfl⟩;generalize hGe:grownCap w (n+m) n (ρ.t 9)=G at *;have h1:i*k<=n*k:=zW _ (by omega);have h2:(n+m)*k=n*k+m*k:=zBW _ _ _;have h3:(i+m)*k=i*k+m*k:=zBW _ _ _;have h4:(n+m-i)*k=(n+m)*k-i*k:=Nat.sub_mul _ _ _;have hs1:(Builtin.zeroCells z.cells (n+m-i)).size=(n+m-i)*k:=by simp[Builtin.zeroCells,hzk]
  generalize hRR:Builtin.zeroCells z.cells (G-(n+m))=RR;generalize hRZ:Builtin.zeroCells z.cells (n+m-i)=RZ at *;have htl:(cs.take (i*k)).length=i*k:=by rw[zBI];omega
  obtain⟨ROW,hROW⟩ : ∃ ROW:Array Value,ROW=(cs.take (i*k)).toArray++RZ++RR:=⟨_,rfl⟩
  have hRs:ROW.size=(n+m)*k+RR.size:=by rw[hROW];simp only[Array.size_append,List.size_toArray,htl,hs1];omega
  have hRl:ROW.toList=cs.take (i*k)++(RZ.toList++RR.toList):=by rw[hROW];simp
  rw[<- hROW];have e1:((w.alloc (.cells ROW (ρ.t 9))).drew.setCells w.heap.size (i*k) vs).drew=w.drew.drew.alloc (.cells (cs.take (i*k)++vs++(RZ.toList++RR.toList).drop vs.length).toArray (ρ.t 9)):=by rw[drew_setCells];have:(w.alloc (.cells ROW (ρ.t 9))).drew.drew=w.drew.drew.alloc (.cells ROW (ρ.t 9)):=rfl;rw[this,zc5 P (cur:=ROW) (t:=ρ.t 9) Array.getElem?_push_size (by omega) h1v];have hsz:w.heap.size=w.drew.drew.heap.size:=rfl;rw[hsz,World.setRow_alloc_new,hRl];congr 3;rw[List.take_append_of_le_length (by omega),zV (by omega),List.drop_append,htl,zQ (by omega),List.nil_append];congr 2;omega
  rw[e1];refine⟨G,((RZ.toList++RR.toList).drop vs.length).drop ((n-i)*k),w.drew.drew,.inr rfl,hG,rfl,?_⟩;have h5:(n-i)*k=n*k-i*k:=Nat.sub_mul _ _ _;have hdl:(cs.drop (i*k)).length=(n-i)*k:=by rw[zBJ];omega
  have hRZl:RZ.toList.length=(n+m-i)*k:=by simpa using hs1
  rw[zc5 P (cur:=(cs.take (i*k)++vs++(RZ.toList++RR.toList).drop vs.length).toArray) (t:=ρ.t 9) Array.getElem?_push_size (by simp only[List.size_toArray,zZ,htl,zBJ,hRZl,hdl];omega) (fun v hv=>h1c v (List.mem_of_mem_drop hv))];have hsz:w.heap.size=w.drew.drew.heap.size:=rfl;rw[hsz,World.setRow_alloc_new];congr 3;simp only[List.toList_toArray];have hav:(cs.take (i*k)++vs).length=(i+m)*k:=by rw[zZ,htl];omega
  rw[hdl];generalize cs.drop (i*k)=CD;rw[List.take_append_of_le_length (by omega),zV (by omega),List.drop_append,hav,zQ (by omega),List.nil_append];congr 2;omega
 ·have hin:i=n:=by omega
  subst hin;refine(zp2 L A i i vb voff m vc cs vs w hm (zR _) (by omega) hbig h63 hcl hvl (fun h=>by rcases hA with h0 | h0<;>simp_all) (fun a ha j v hj => ?_) hvs h1v).mono ?_
  ·rcases hA with h0 | h0
   ·subst h0;have:cs=[]:=List.length_eq_zero_iff.1 (by rw[hcl];simp);subst this;simp at hj
   ·rw[h0]at ha;injection ha with ha;subst ha;rw[Addr.add_lit];exact hcs j v hj
  ·rintro e w' ⟨rfl,rfl⟩;refine⟨_,(Builtin.zeroCells z.cells (grownCap w (i+m) i (ρ.t 9)-(i+m))).toList,w.drew,.inl rfl,hG,rfl,?_⟩;rw[zV (by omega),zQ (by omega),List.append_nil];congr 2;simp
end Go.Proofs
end
section
set_option linter.all false
namespace Go.Ev
open Go.Proofs Go.Shelf
theorem Bears.does{P:Program}{f:Nat}{B:Func}{c:Code}{args:Array Value}{w:World}{R:Ending->World->Prop}(h:Bears P f B)(hb:B.body=some c)(hc:Calls P f args w R):Does P f args w R:=
 .inl ⟨h.enters hb args w,hc⟩
theorem zcG{S:G}{d:D}{A:Option Addr}{n c:Nat}(hd:YM d=true)(hr:Rep S d (.slice A n c)):n=c:=by
 cases hr with
 | und=>cases hd
 | sl g n xs A c b off us hc hA hu hrr hφ hgg=>
  cases g with
  | full=>exact hgg
  | no=>cases hd
  | ln _ _=>cases hd
 | ref k off n c sz b c' hk hb hcap=>
  have e:n=c:=zJ hd;rcases hcap with h | ⟨h1,_,h2⟩
  ·rw[h];exact e
  ·omega
theorem zox{S:G}{st:St}(hi:Inv S st){w0:World}(hw:SameW S.w w0){ds:List D}{vs rest:List Value}{n c:Nat}{t:TypeId}(hr:RepL S ds vs)(hn:n<=c) :
  ∃ S',S'.w=w0.alloc (.cells (vs++rest).toArray t)/\Ext S S'/\Inv S' st/\Rep S' (.sl .no n ds) (.slice (some ⟨S.w.heap.size,0,none⟩) n c):=by
 obtain⟨S',h1,h2,h3,h4⟩:=znp hi (.cells (vs++rest).toArray t (0,0)) ds.length hw;refine⟨S',h1,h2,h3,?_⟩;have hheap:S'.w.heap[S.w.heap.size]?=some (.cells (vs++rest).toArray t (0,0)):=by rw[h1];show(w0.heap.push _)[S.w.heap.size]?=_;rw[<- hw.heap];exact Array.getElem?_push_size
 have hcell : ∀ j,j<ds.length->S'.w.cell? ⟨S.w.heap.size,0+j,none⟩=some (vs[j]!):=by
  intro j hj;have hj':j<vs.length:=by rw[hr.1];exact hj
  have hj2:j<(vs++rest).length:=by rw[zZ];omega
  simp only[World.cell?,hheap,zBE];rw[getElem!_pos vs j hj'];simp only[List.getElem?_toArray,zBP hj',zL hj'];rfl
 refine .sl .no n ds _ c S.w.heap.size 0 (fun j=>vs[j]!) hn (.inr rfl) hcell (fun j d hd => ?_) (.inr (by rw[h4];omega)) trivial;obtain⟨v,hv,hrv⟩:=(hr.ext h2).get hd;have:vs[j]! = v:=by simp[hv]
 rw[this];exact hrv
theorem zzl(ρ:Ren) : ∃ c,(Body2.n22 ρ).body=some c:=⟨_,rfl⟩
theorem zAi(ρ:Ren) : ∃ c,(Body8.n4 ρ).body=some c:=⟨_,rfl⟩
theorem zfv{P:Program}{E:Env}{ρ:Ren}{sz bw:Nat}{z:Value}(L:zuA P ρ sz bw z)(ds0 ds:List D)(d:D)(h:Vv sz bw ds0 ds=some d)(S:G)(st:St)(vs:List Value)(hi:Inv S st)(hr0:RepL S ds0 vs)(hr:RepL S ds vs)(_:GlOk S E) :
  Does P (ρ.f 22) vs.toArray S.w fun e w' => ∃ S',S'.w=w'/\Ext S S'/\Inv S' (told st d).2 /\ ∃ v,e = .returned v/\Rep S' (told st d).1 v:=by
 obtain⟨c,hb⟩:=zzl ρ;unfold Vv at h;split at h<;>try contradiction
 next d0 r0 g n xs i g2 m ws=>
  obtain⟨hc,h⟩:=yq h;injection h with h;subst h;simp only[zG,zeU,zCb]at hc;obtain⟨⟨⟨⟨⟨hrm,hx⟩,hw⟩,h1x⟩,h1w⟩,⟨⟨⟨⟨h3,h4⟩,h5⟩,h6⟩,h7⟩⟩:=hc;have hx:=zJ hx;have hw:=zJ hw;have hlen:=hr.1
  match vs,hlen with
  | [v0,v1,v2],_=>
   have hv0:Rep S (.sl g n xs) v0:=hr.2 0 _ _ rfl rfl;have hv1:Rep S (.int .i64 i) v1:=hr.2 1 _ _ rfl rfl;have hv2:Rep S (.sl g2 m ws) v2:=hr.2 2 _ _ rfl rfl;have hd0:Rep S d0 v0:=hr0.2 0 _ _ rfl rfl;cases hv1;cases hv0 with
   | sl _ _ _ A cap b off us hc hA hu hrr hφ hg=>
   cases hv2 with
   | sl _ _ _ A2 cap2 b2 off2 us2 hc2 hA2 hu2 hrr2 hφ2 hg2=>
   have hcap:=zcG hrm hd0;subst hcap;obtain⟨k,rfl⟩:=Int.eq_ofNat_of_zero_le h3;have h4:k<=n:=Int.ofNat_le.1 h4;have hk0:=L.k0;have hm0:0<m*sz:=Nat.mul_pos h5 hk0;have hA2:A2=some ⟨b2,off2,none⟩:=hA2.resolve_left (fun e=>by subst e;simp at hw;omega);subst hA2;have hcsl:((List.range xs.length).map us).length=n*sz:=by simp[hx]
   have hwsl:((List.range ws.length).map us2).length=m*sz:=by simp[hw]
   have hcg : ∀ j v,((List.range xs.length).map us)[j]?=some v->j<xs.length/\v=us j:=by intro j v hj;rw[zBU,zB]at hj;obtain⟨a,ha,rfl⟩:=hj;rw[List.getElem?_eq_some_iff]at ha;obtain⟨h1,h2⟩:=ha;simp at h1 h2;exact⟨h1,by rw[h2]⟩
   have hwg : ∀ j v,((List.range ws.length).map us2)[j]?=some v->j<ws.length/\v=us2 j:=by intro j v hj;rw[zBU,zB]at hj;obtain⟨a,ha,rfl⟩:=hj;rw[List.getElem?_eq_some_iff]at ha;obtain⟨h1,h2⟩:=ha;simp at h1 h2;exact⟨h1,by rw[h2]⟩
   have hxr:RepL S xs ((List.range xs.length).map us):=⟨by simp,fun j d v hd hv=>by rw[(hcg j v hv).2];exact hrr j d hd⟩
   have hwr:RepL S ws ((List.range ws.length).map us2):=⟨by simp,fun j d v hd hv=>by rw[(hwg j v hv).2];exact hrr2 j d hd⟩
   refine Bears.does L.f22 hb ((ztI L A b off n k b2 off2 m cap2 _ _ S.w (hA.imp (fun e => ?_) id) h4 h5 h6 h7 hcsl hwsl (fun j v hj => ?_) (fun j v hj => ?_) (hxr.oneCells h1x) (hwr.oneCells h1w)).mono ?_)
   ·subst e;have:n*sz=0:=by simpa using hx.symm
    rcases Nat.mul_eq_zero.1 this with h | h<;>omega
   ·obtain⟨h8,rfl⟩:=hcg j v hj;exact hu j h8
   ·obtain⟨h8,rfl⟩:=hwg j v hj;exact hu2 j h8
   ·rintro e w' ⟨G,rest,w0,hw0,hG,rfl,rfl⟩;have hsw:SameW S.w w0:=by
     rcases hw0 with rfl | rfl
     ·exact .drew _
     ·exact⟨rfl,rfl,rfl,rfl⟩
    have hrep:RepL S (xs.take (k*sz)++ws++xs.drop (k*sz)) (((List.range xs.length).map us).take (k*sz)++(List.range ws.length).map us2++((List.range xs.length).map us).drop (k*sz)):=((hxr.take _).app hwr).app (hxr.drop _);obtain⟨S',h8,h9,h10,h11⟩:=zox (t:=ρ.t 9) (rest:=rest) hi hsw hrep hG;exact⟨S',h8,h9,h10,_,rfl,h11⟩
theorem zkl{P:Program}{E:Env}{ρ:Ren}{sz bw:Nat}(L:Lays8.n4 P ρ){i0:TypeInfo}{z:Value}(hi0:P.info? (ρ.t 25)=some i0)(hz0:i0.zero=some z)(hs:i0.size=sz)(hzc:z.cells.size=sz)(hs0:0<sz)(hbw:i0.bytes=bw)(ds0 ds:List D)(d:D)(h:zdY sz bw ds0 ds=some d)(S:G)(st:St)(vs:List Value)(hi:Inv S st)(hr0:RepL S ds0 vs)(hr:RepL S ds vs)(_:GlOk S E) :
  Does P (ρ.f 4) vs.toArray S.w fun e w' => ∃ S',S'.w=w'/\Ext S S'/\Inv S' (told st d).2 /\ ∃ v,e = .returned v/\Rep S' (told st d).1 v:=by
 obtain⟨c,hb⟩:=zAi ρ;unfold zdY at h;split at h<;>try contradiction
 next d0 r0 g n=>
  obtain⟨hc,h⟩:=yq h;injection h with h;subst h;simp only[zG,zbq,zCb]at hc;obtain⟨hrm,⟨h3,h4⟩,h5⟩:=hc;have hlen:=hr.1
  match vs,hlen with
  | [v0,v1],_=>
   have hv0:Rep S (.sl g 0 []) v0:=hr.2 0 _ _ rfl rfl;have hv1:Rep S (.int .i64 n) v1:=hr.2 1 _ _ rfl rfl;have hd0:Rep S d0 v0:=hr0.2 0 _ _ rfl rfl;cases hv1;cases hv0 with
   | sl _ _ _ A cap b off us hc hA hu hrr hφ hg=>
   have hcap:=zcG hrm hd0;subst hcap;obtain⟨k,rfl⟩:=Int.eq_ofNat_of_zero_le h3;have h5:k<=140737488355328:=Int.ofNat_le.1 h5;have h4:k*bw<=140737488355328:=h4;cases k with
   | zero=>refine Bears.does L.f4 hb ((Any8.slices_Grow_room L A 0 0 0 S.w (zR _) (by omega) (by omega) (zR _)).mono ?_);rintro e w' ⟨rfl,rfl⟩;obtain⟨S',h6,h7,h8,h9,h10⟩:=zix hi 0 sz A;exact⟨S',h6,h7,h8,_,rfl,.sl _ 0 [] A 0 b off us (zR _) (.inl rfl) (fun j hj=>by simp at hj) (fun j d hd=>by simp at hd) (.inl rfl) ⟨h9,h10⟩⟩
   | succ k=>
    refine Bears.does L.f4 hb ((Any8.slices_Grow_grow L i0 z hi0 hz0 (by omega) A 0 0 (k+1) [] S.w (zR _) (by omega) (by rw[hbw,zBE];exact h4) (by omega) (by simp) (fun _=>rfl) (fun a _ j v hj=>by simp at hj)).mono ?_);rintro e w' ⟨rfl,rfl⟩;have hG:=grownCap_ge S.w (0+(k+1)) 0 (ρ.t 25);generalize hcs:([]:List Value).toArray++Builtin.zeroCells z.cells (0+(k+1)-0)++Builtin.zeroCells z.cells (grownCap S.w (0+(k+1)) 0 (ρ.t 25)-(0+(k+1)))=cs;have hsz:grownCap S.w (0+(k+1)) 0 (ρ.t 25)*sz<=cs.size:=by
     have key : ∀ G N:Nat,N<=G -> ∀ q:Nat,G*sz<=q+N*sz+(G-N)*sz:=by intro G N h q;obtain⟨d,rfl⟩:=Nat.exists_eq_add_of_le h;rw[Nat.add_sub_cancel_left,zBW];omega
     rw[<- hcs];simp only[Array.size_append,size_zeroCells,hzc];exact key _ _ hG _
    obtain⟨S',h6,h7,h8,h9,h10,h11⟩:=zrg hi cs (ρ.t 25) 0 (grownCap S.w (0+(k+1)) 0 (ρ.t 25)) sz (.drew _) (Nat.zero_le _) hsz;exact⟨S',h6,h7,h8,_,rfl,.sl _ 0 [] _ _ b off us (Nat.zero_le _) (.inl rfl) (fun j hj=>by simp at hj) (fun j d hd=>by simp at hd) (.inl rfl) ⟨h10,h11⟩⟩
end Go.Ev
end

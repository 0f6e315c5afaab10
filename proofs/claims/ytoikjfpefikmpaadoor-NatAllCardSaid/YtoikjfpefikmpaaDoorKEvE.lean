/- The machines Ev and Pv, part 5: an abstract machine over the translated code, proved sound once. -/
import Derived.Shelf.Strings.Builder1
import Derived.Test.YtoikjfpefikmpaaDoorKEvD
set_option linter.all false
open Nat renaming lt_of_lt_of_le→zK,le_refl→zR
section
set_option linter.all false
set_option linter.unusedVariables false
namespace Go.Ev
open Go.Proofs Go.Shelf Go.RowKit Go.Lib
variable {P:Program} {ρ:Ren}
def NewOr(w:World)(v v':Value):Prop := ∀ g,v'.ownBlock=some g→v.ownBlock=some g∨w.heap.size≤g
theorem app_str(w:World)(t u ty e:TypeId)(i:TypeInfo)(ht:P.underlying t=some (.slice e))(hu:P.underlying u=some .string)(hi:P.info? e=some i)(hz:i.zero=some (.int .u8 0))
  (hsize:i.size=1) (hby:i.bytes=1) (v:Value) (n:Nat) (xs:List Value) (hown:w.ownsRow 0 e 1 v n xs) (s:ByteArray) (h63:n+s.size≤maxLen) (hbytes:n+s.size≤140737488355328) :
  ∃ v' w',(Builtin.append_ #[t,u] ty #[v,.string s]).run P w = .ok v' w'∧w'.ownsRow 0 e 1 v' (n+s.size) (xs++strCells s)∧w.grownBy w' v.ownBlock∧NewOr w v v':=by
 -- as the library's law; the new row is told
 rcases hown.2 with⟨rfl,rfl⟩ | ⟨g,cap,cur,rfl,hbg,hg,hnc,hcm,hcs,htake⟩
 ·have h0:w.ownsRow w.heap.size e 1 (.slice none 0 0) 0 xs:=⟨hown.1,.inl ⟨rfl,rfl⟩⟩
  obtain⟨v',w',h1,h2,h3,h4⟩:=Lib.run_append_own_string (P:=P) w w.heap.size t u ty e i ht hu hi hz hsize hby _ 0 xs h0 s h63 hbytes (zR _)
  refine⟨v',w',h1,⟨h2.1,?_⟩,h3,fun g hg => ?_⟩
  ·rcases h2.2 with h5 | ⟨g,cap,cur,h5,h6,h7⟩
   ·exact .inl h5
   ·exact .inr ⟨g,cap,cur,h5,Nat.zero_le _,h7⟩
  ·rcases h2.2 with⟨rfl,_⟩ | ⟨g',cap,cur,rfl,h6,h7⟩
   ·simp[Value.ownBlock]at hg
   ·simp only[Value.ownBlock,Option.some.injEq]at hg;subst hg;exact .inr h6
 ·have hxl:xs.length=n:=by simpa using hown.1
  have hsmall:n+s.size≤9223372036854775807:=by simp only[maxLen]at h63;omega
  by_cases hroom:n+s.size≤cap
  ·obtain⟨v',w',h1,h2,h3,h4⟩:=Lib.run_append_own_string (P:=P) w 0 t u ty e i ht hu hi hz hsize hby _ n xs hown s h63 hbytes (Nat.zero_le _)
   have hr:=Lib.run_append_room_string (P:=P) w t u ty e i ht hu hi hsize g n cap cur hg s hroom (by rw[hcs];omega)
   rw[hr]at h1
   injection h1 with h1 h1'
   subst h1
   exact⟨_,w',by rw[hr,h1'],h2,h3,fun g' hg' => .inl hg'⟩
  ·obtain⟨v',w',h1,h2,h3,h4⟩:=Lib.run_append_own_string (P:=P) w 0 t u ty e i ht hu hi hz hsize hby _ n xs hown s h63 hbytes (Nat.zero_le _)
   have holds : ∀ j u,xs[j]?=some u→w.cell? ((⟨g,0,none⟩:Addr).add j)=some u:=hown.cells (g:=g) rfl
   have hr:=Lib.run_append_grow_string (P:=P) w t u ty e i (.int .u8 0) ht hu hi hz ⟨g,0,none⟩ n cap xs (by rw[hsize];simpa using hxl) holds s (by omega) (by omega) (by rw[hby];exact growslice_fits (by omega) (by omega))
   rw[hr]at h1
   injection h1 with h1 h1'
   subst h1
   exact⟨_,w',by rw[hr,h1'],h2,h3,fun g' hg' => .inr (by simp only[Value.ownBlock,Option.some.injEq]at hg';omega)⟩
theorem wp_app_str{w:World}{ops:Array Oper}{rest:List Oper}{o:Oper}{a:Act}{Q:Exit→Act→World→Prop}(hgd:o.guard=none)(sl x:Operand)(t u:TypeId)
  (ho:o.op = .call { callee := .builtin .append,args := #[sl,x],argTypes := #[t,u] })
  (e:TypeId) (i:TypeInfo) (ht:P.underlying t=some (.slice e)) (hu:P.underlying u=some .string) (hi:P.info? e=some i) (hz:i.zero=some (.int .u8 0))
  (hsize:i.size=1) (hby:i.bytes=1)
  (v:Value) (n:Nat) (xs:List Value) (hs:a.eval sl=v) (hown:w.ownsRow 0 e 1 v n xs) (s:ByteArray) (hx:a.eval x = .string s)
  (h63:n+s.size≤maxLen) (hbytes:n+s.size≤140737488355328)
  (h : ∀ v' w',w'.ownsRow 0 e 1 v' (n+s.size) (xs++strCells s)→w.grownBy w' v.ownBlock→NewOr w v v'→wpList P ops Q rest (a.put o.dst v') w'):wpList P ops Q (o::rest) a w:=by
 refine wpList_plain hgd fun K hK => ?_
 obtain⟨v',w',hr,h2,h3,h4⟩:=app_str (P:=P) w t u o.type e i ht hu hi hz hsize hby v n xs hown s h63 hbytes
 unfold Oper.wp execOp
 simp only[ho,resolve,invoke,builtin,Sem.run_bind,Sem.run_pure,Result.andThen_ok,List.map_toArray,List.map_cons,List.map_nil,hs,hx,hr]
 exact hK _ _ (h v' w' h2 h3 h4)
theorem app_one(w:World)(t ty e:TypeId)(i:TypeInfo)(ht:P.underlying t=some (.slice e))(hi:P.info? e=some i)(hz:i.zero=some (.int .u8 0))
  (hsize:i.size=1) (hby:i.bytes=1) (v:Value) (n:Nat) (xs:List Value) (hown:w.ownsRow 0 e 1 v n xs) (ad:Addr) (c:Nat) (news:List Value) (hl:news.length=1 * 1) (hnews : ∀ j u,news[j]?=some u→w.cell? (ad.add j)=some u) (h1 : ∀ u∈news,u.oneCell'=true)
  (h63:n+1≤maxLen) (hbytes:n+1≤140737488355328) :
  ∃ v' w',(Builtin.append_ #[t,t] ty #[v,.slice (some ad) 1 c]).run P w = .ok v' w'∧w'.ownsRow 0 e 1 v' (n+1) (xs++news)∧w.grownBy w' v.ownBlock∧NewOr w v v':=by
 rcases hown.2 with⟨rfl,rfl⟩ | ⟨g,cap,cur,rfl,hbg,hg,hnc,hcm,hcs,htake⟩
 ·have h0:w.ownsRow w.heap.size e 1 (.slice none 0 0) 0 xs:=⟨hown.1,.inl ⟨rfl,rfl⟩⟩
  obtain⟨v',w',h1,h2,h3,h4⟩:=run_append_own (P:=P) w w.heap.size t ty e i (.int .u8 0) 1 1 ht hi hz hsize hby rfl (by decide) _ 0 xs h0 ad 1 c news hl hnews h1 h63 (by omega) (zR _)
  refine⟨v',w',h1,⟨h2.1,?_⟩,h3,fun g hg => ?_⟩
  ·rcases h2.2 with h5 | ⟨g,cap,cur,h5,h6,h7⟩
   ·exact .inl h5
   ·exact .inr ⟨g,cap,cur,h5,Nat.zero_le _,h7⟩
  ·rcases h2.2 with⟨rfl,_⟩ | ⟨g',cap,cur,rfl,h6,h7⟩
   ·simp[Value.ownBlock]at hg
   ·simp only[Value.ownBlock,Option.some.injEq]at hg;subst hg;exact .inr h6
 ·obtain⟨v',w',h2,h3,h4,h5⟩:=run_append_own (P:=P) w 0 t ty e i (.int .u8 0) 1 1 ht hi hz hsize hby rfl (by decide) _ n xs hown ad 1 c news hl hnews h1 h63 (by omega) (Nat.zero_le _)
  by_cases hroom:n+1≤cap
  ·have hr:=run_append_room (P:=P) w t ty e i ht hi g n cap cur hg ad 1 c news (by rw[hsize];exact hl) hnews h1 hroom (by rw[hsize,hl,hcs];omega)
   rw[hr]at h2
   injection h2 with h2 h2'
   subst h2
   exact⟨_,w',by rw[hr,h2'],h3,h4,fun g' hg' => .inl hg'⟩
  ·have holds : ∀ j u,xs[j]?=some u→w.cell? ((⟨g,0,none⟩:Addr).add j)=some u:=hown.cells (g:=g) rfl
   have hr:=run_append_grow (P:=P) w t ty e i (.int .u8 0) ht hi hz ⟨g,0,none⟩ n cap xs (by rw[hsize];exact hown.1) holds ad 1 c news (by rw[hsize];exact hl) hnews (by omega) (by simp only[maxLen]at h63;omega) (by rw[hby];exact growslice_fits (by omega) (by omega))
   rw[hr]at h2
   injection h2 with h2 h2'
   subst h2
   exact⟨_,w',by rw[hr,h2'],h3,h4,fun g' hg' => .inr (by simp only[Value.ownBlock,Option.some.injEq]at hg';omega)⟩
theorem wp_app_one{w:World}{ops:Array Oper}{rest:List Oper}{o:Oper}{a:Act}{Q:Exit→Act→World→Prop}(hgd:o.guard=none)(s x:Operand)(t:TypeId)
  (ho:o.op = .call { callee := .builtin .append,args := #[s,x],argTypes := #[t,t] })
  (e:TypeId) (i:TypeInfo) (ht:P.underlying t=some (.slice e)) (hi:P.info? e=some i) (hz:i.zero=some (.int .u8 0)) (hsize:i.size=1) (hby:i.bytes=1)
  (v:Value) (n:Nat) (xs:List Value) (hs:a.eval s=v) (hown:w.ownsRow 0 e 1 v n xs) (ad:Addr) (c:Nat) (news:List Value) (hx:a.eval x = .slice (some ad) 1 c) (hl:news.length=1 * 1) (hnews : ∀ j u,news[j]?=some u→w.cell? (ad.add j)=some u) (h1 : ∀ u∈news,u.oneCell'=true)
  (h63:n+1≤maxLen) (hbytes:n+1≤140737488355328)
  (h : ∀ v' w',w'.ownsRow 0 e 1 v' (n+1) (xs++news)→w.grownBy w' v.ownBlock→NewOr w v v'→wpList P ops Q rest (a.put o.dst v') w'):wpList P ops Q (o::rest) a w:=by
 refine wpList_plain hgd fun K hK => ?_
 obtain⟨v',w',hr,h2,h3,h4⟩:=app_one (P:=P) w t o.type e i ht hi hz hsize hby v n xs hown ad c news hl hnews h1 h63 hbytes
 unfold Oper.wp execOp
 simp only[ho,resolve,invoke,builtin,Sem.run_bind,Sem.run_pure,Result.andThen_ok,List.map_toArray,List.map_cons,List.map_nil,hs,hx,hr]
 exact hK _ _ (h v' w' h2 h3 h4)
/-- a builder of our own: its cells, what it holds -/
structure Bl(T e:TypeId)(b:Nat)(p v:Value)(n:Nat)(bs:List Value)(w:World):Prop where
 cells:w.heap[b]?=some (.cells #[p,v] T (0,0))
 own:w.ownsRow 0 e 1 v n bs
 ne:v.ownBlock≠some b
theorem Turns.refl(w:World)(b:Nat)(v:Value):Turns w w b v:=⟨rfl,rfl,rfl,zR _,fun _ _ _ _=>rfl⟩
theorem Turns.trans{w w' w'':World}{b:Nat}{v:Value}(h:Turns w w' b v)(k:Turns w' w'' b v):Turns w w'' b v:=
 ⟨k.os.trans h.os,k.tape.trans h.tape,k.output.trans h.output,Nat.le_trans h.size k.size,fun j hj hb hv=>(k.block j (zK hj h.size) hb hv).trans (h.block j hj hb hv)⟩
theorem Turns.cell(w:World)(b i:Nat)(u v:Value):Turns w (w.setCell ⟨b,i,none⟩ u) b v:=
 ⟨rfl,rfl,rfl,by simp[World.setCell],fun j _ hb _=>Below.heap_setCell _ _ _ _ hb⟩
theorem Turns.grown{w w':World}{b:Nat}{v:Value}(h:w.grownBy w' v.ownBlock):Turns w w' b v:=
 ⟨h.os,h.tape,h.output,h.size,fun j hj _ hv=>h.block j hj (fun e=>hv e.symm)⟩
theorem Turns.alloc(w:World)(o:Obj)(b:Nat)(v:Value):Turns w (w.alloc o) b v:=
 ⟨rfl,rfl,rfl,by simp,fun j hj _ _=>Below.heap_alloc w o j hj⟩
theorem Turns.below{w w':World}{b:Nat}{v:Value}(h:Below w.heap.size w w'):Turns w w' b v:=
 ⟨h.os,h.tape,h.output,h.size,fun j hj _ _=>h.block j hj⟩
theorem Bl.lt{T e:TypeId}{b:Nat}{p v:Value}{n:Nat}{bs:List Value}{w:World}(h:Bl T e b p v n bs w):b<w.heap.size:=lt_of_heap h.cells
/-- it is marked -/
theorem chk_fine(L:Lays.n240 P ρ)(X:Builder.X72 P ρ)(b:Nat)(p v:Value)(n:Nat)(bs:List Value)(w:World)(h:Bl (ρ.t 72) (ρ.t 5) b p v n bs w)(hp:p = .pointer none∨p = .pointer (some ⟨b,0,none⟩)) :
  Calls P (ρ.f 240) #[.pointer (some ⟨b,0,none⟩)] w fun e w'=>e = .returned (.tuple #[])∧Bl (ρ.t 72) (ρ.t 5) b (.pointer (some ⟨b,0,none⟩)) v n bs w'∧Turns w w' b v:=by
 rcases hp with rfl | rfl
 ·refine(Any.Builder_copyCheck_fresh L X b w (by rw[Lib.cell_of_heap h.cells];rfl) (by simp[World.shape?,h.cells]) (Lib.frozen_of_heap h.cells 0)).mono ?_
  rintro e w' ⟨rfl,rfl⟩
  refine⟨rfl,⟨by simp[World.setCell,Array.getElem?_modify,h.cells],?_,h.ne⟩,Turns.cell _ _ _ _ _⟩
  exact ownsRow_same h.own fun g hg=>Below.heap_setCell _ _ _ _ (fun e=>h.ne (by rw[hg];exact congrArg some e))
 ·refine(Any.Builder_copyCheck_used L X b w (by rw[Lib.cell_of_heap h.cells];rfl)).mono ?_
  rintro e w' ⟨rfl,rfl⟩
  exact⟨rfl,h,Turns.refl _ _ _⟩
/-- a new buffer is laid -/
theorem Bl.put{T e:TypeId}{b:Nat}{p v v':Value}{n:Nat}{bs:List Value}{w:World}(hb:w.heap[b]?=some (.cells #[p,v] T (0,0)))(hown:w.ownsRow 0 e 1 v' n bs)(hTe:T≠e):Bl T e b p v' n bs (w.setCell ⟨b,1,none⟩ v'):=by
 have hne:=Lib.ownBlock_ne hown hb hTe
 refine⟨by simp[World.setCell,Array.getElem?_modify,hb],?_,hne⟩
 exact ownsRow_same hown fun g hg=>Below.heap_setCell _ _ _ _ (fun e=>hne (by rw[hg];exact congrArg some e))
set_option maxHeartbeats 2000000 in
set_option maxRecDepth 100000 in
theorem ws_fine(L:Lays.n166 P ρ)(X:Builder.Extra P ρ)(b:Nat)(p v:Value)(n:Nat)(bs:List Value)(s:ByteArray)(w:World)(h:Bl (ρ.t 72) (ρ.t 5) b p v n bs w)(hp:p = .pointer none∨p = .pointer (some ⟨b,0,none⟩))(hlen:n+s.size≤140737488355328) :
  Calls P (ρ.f 166) #[.pointer (some ⟨b,0,none⟩),.string s] w fun e w'=>e = .returned (.tuple #[.int .i64 s.size,.nilIface])∧Turns w w' b v ∧ ∃ v',Bl (ρ.t 72) (ρ.t 5) b (.pointer (some ⟨b,0,none⟩)) v' (n+s.size) (bs++strCells s) w'∧NewOr w v v':=by
 obtain⟨i0,hi,hz0,hz1,hz2⟩:=info_parts X.infoByte
 have mixed:=L.mixed
 have t72:=L.t72;have a72:=L.a72;have z72:=L.z72;have v72:=L.v72;have u72:=run_underlying L.t72
 have t70:=L.t70;have a70:=L.a70;have z70:=L.z70;have v70:=L.v70;have u70:=run_underlying L.t70
 have t37:=L.t37;have a37:=L.a37;have z37:=L.z37;have v37:=L.v37;have u37:=run_underlying L.t37
 have t3:=L.t3;have a3:=L.a3;have z3:=L.z3;have v3:=L.v3;have u3:=run_underlying L.t3
 have t9:=L.t9;have a9:=L.a9;have z9:=L.z9;have v9:=L.v9;have u9:=run_underlying L.t9
 have t4:=L.t4;have a4:=L.a4;have z4:=L.z4;have v4:=L.v4;have u4:=run_underlying L.t4
 have t164:=L.t164;have a164:=L.a164;have z164:=L.z164;have v164:=L.v164;have u164:=run_underlying L.t164
 have t5:=X.t5;have a5:=X.a5;have z5:=X.z5;have v5:=X.v5;have u5:=run_underlying X.t5
 have e240 : ∀ args w,(callFunc (ρ.f 240) args).run P w = .ok (.enter (ρ.f 240) args) w:=enters_of L.f240 (by kernel_rfl) rfl
 go_enter L.f166,Body.n166_ntmps ρ
 go_wp2_with (go_at_fn (ρ.f 240);refine(chk_fine { L with } X.toX72 b p v n bs _ h hp).mono ?_)
 rintro e w1 ⟨rfl,⟨hbk,hown,hne⟩,hb1⟩
 have c0:w1.cell? ⟨b,0,none⟩=some (.pointer (some ⟨b,0,none⟩)):=by rw[Lib.cell_of_heap hbk];rfl
 have c1:w1.cell? ⟨b,1,none⟩=some v:=by rw[Lib.cell_of_heap hbk];rfl
 go_wp2_with (at_builtin;refine wp_app_str rfl _ _ (ρ.t 37) (ρ.t 9) rfl (ρ.t 5) i0 L.t37 L.t9 hi hz0 hz1 hz2 _ _ _ rfl hown s rfl ?c3 ?c4 ?_)
 case c3=>unfold maxLen;omega
 case c4=>omega
 intro v' w2 hown' hgrow hnew
 have hlt:b<w1.heap.size:=lt_of_heap hbk
 have hb2:w2.heap[b]?=some (.cells #[.pointer (some ⟨b,0,none⟩),v] (ρ.t 72) (0,0)):=by
  rw[hgrow.block b hlt (fun e=>hne e.symm)]
  exact hbk
 have d0:w2.cell? ⟨b,0,none⟩=some (.pointer (some ⟨b,0,none⟩)):=by rw[Lib.cell_of_heap hb2];rfl
 have d1:w2.cell? ⟨b,1,none⟩=some v:=by rw[Lib.cell_of_heap hb2];rfl
 have f1:w2.frozen? ⟨b,1,none⟩=false:=Lib.frozen_of_heap hb2 1
 obtain⟨ao,n',cap,rfl⟩ : ∃ ao n' cap,v' = .slice ao n' cap:=by
  rcases hown'.2 with⟨hv,_⟩ | ⟨g,cap,cur,hv,_⟩
  ·exact⟨_,_,_,hv⟩
  ·exact⟨_,_,_,hv⟩
 go_wp2
 go_ret2
 refine⟨rfl,(hb1.trans (Turns.grown hgrow)).trans (Turns.cell _ _ _ _ _),_,Bl.put hb2 hown' X.neB5,fun g hg=>(hnew g hg).imp id (fun h=>Nat.le_trans hb1.size h)⟩
set_option maxHeartbeats 2000000 in
set_option maxRecDepth 100000 in
theorem wb_fine(L:Lays.n167 P ρ)(X:Builder.Extra P ρ)(b:Nat)(p v:Value)(n:Nat)(bs:List Value)(c:Int)(w:World)(h:Bl (ρ.t 72) (ρ.t 5) b p v n bs w)(hp:p = .pointer none∨p = .pointer (some ⟨b,0,none⟩))(hlen:n+1≤140737488355328) :
  Calls P (ρ.f 167) #[.pointer (some ⟨b,0,none⟩),.int .u8 c] w fun e w'=>e = .returned .nilIface∧Turns w w' b v ∧ ∃ v',Bl (ρ.t 72) (ρ.t 5) b (.pointer (some ⟨b,0,none⟩)) v' (n+1) (bs++[.int .u8 c]) w'∧NewOr w v v':=by
 obtain⟨i0,hi,hz0,hz1,hz2⟩:=info_parts X.infoByte
 have mixed:=L.mixed
 have t72:=L.t72;have a72:=L.a72;have z72:=L.z72;have v72:=L.v72;have u72:=run_underlying L.t72
 have t70:=L.t70;have a70:=L.a70;have z70:=L.z70;have v70:=L.v70;have u70:=run_underlying L.t70
 have t5:=L.t5;have a5:=L.a5;have z5:=L.z5;have v5:=L.v5;have u5:=run_underlying L.t5
 have t37:=L.t37;have a37:=L.a37;have z37:=L.z37;have v37:=L.v37;have u37:=run_underlying L.t37
 have t9:=L.t9;have a9:=L.a9;have z9:=L.z9;have v9:=L.v9;have u9:=run_underlying L.t9
 have t4:=L.t4;have a4:=L.a4;have z4:=L.z4;have v4:=L.v4;have u4:=run_underlying L.t4
 have t164:=L.t164;have a164:=L.a164;have z164:=L.z164;have v164:=L.v164;have u164:=run_underlying L.t164
 have e240 : ∀ args w,(callFunc (ρ.f 240) args).run P w = .ok (.enter (ρ.f 240) args) w:=enters_of L.f240 (by kernel_rfl) rfl
 go_enter L.f167,Body.n167_ntmps ρ
 go_wp2_with (go_at_fn (ρ.f 240);refine(chk_fine { L with } X.toX72 b p v n bs _ h hp).mono ?_)
 rintro e w1 ⟨rfl,⟨hbk,hown,hne⟩,hb1⟩
 have c0:w1.cell? ⟨b,0,none⟩=some (.pointer (some ⟨b,0,none⟩)):=by rw[Lib.cell_of_heap hbk];rfl
 have c1:w1.cell? ⟨b,1,none⟩=some v:=by rw[Lib.cell_of_heap hbk];rfl
 go_wp2_with (at_builtin;refine wp_app_one rfl _ _ (ρ.t 37) rfl (ρ.t 5) i0 L.t37 hi hz0 hz1 hz2 _ _ _ rfl (hown.alloc _) ⟨w1.heap.size,0,none⟩ 1 [.int .u8 c] rfl rfl ?c1 ?c2 ?c3 ?c4 ?_)
 case c1=>
  intro j u hj
  match j,hj with
  | 0,hj=>simp at hj;subst hj;simp[Addr.add]
 case c2=>intro u hu;simp at hu;subst hu;rfl
 case c3=>unfold maxLen;omega
 case c4=>omega
 intro v' w2 hown' hgrow hnew
 have hlt:b<w1.heap.size:=lt_of_heap hbk
 have hb2:w2.heap[b]?=some (.cells #[.pointer (some ⟨b,0,none⟩),v] (ρ.t 72) (0,0)):=by
  rw[hgrow.block b (by simp;omega) (fun e=>hne e.symm),Lib.alloc_old w1 _ b hlt]
  exact hbk
 have d0:w2.cell? ⟨b,0,none⟩=some (.pointer (some ⟨b,0,none⟩)):=by rw[Lib.cell_of_heap hb2];rfl
 have d1:w2.cell? ⟨b,1,none⟩=some v:=by rw[Lib.cell_of_heap hb2];rfl
 have f1:w2.frozen? ⟨b,1,none⟩=false:=Lib.frozen_of_heap hb2 1
 obtain⟨g,cap,rfl⟩ : ∃ g cap,v' = .slice (some ⟨g,0,none⟩) (n+1) cap:=by
  rcases hown'.2 with⟨_,h0⟩ | ⟨g,cap,cur,hv,_⟩
  ·omega
  ·exact⟨g,cap,hv⟩
 go_wp2
 go_ret
 refine⟨rfl,((hb1.trans (Turns.alloc _ _ _ _)).trans (Turns.grown hgrow)).trans (Turns.cell _ _ _ _ _),_,Bl.put hb2 hown' X.neB5,fun g hg=>(hnew g hg).imp id (fun h => ?_)⟩
 have h2:=hb1.size
 simp at h
 omega
theorem turns_freeze0(w:World)(b g:Nat)(v:Value)(n:Nat)(hv:v.ownBlock=some g):Turns w (w.freeze ⟨g,0,none⟩ n) b v:=by
 unfold World.freeze
 split
 ·exact Turns.refl _ _ _
 ·refine⟨rfl,rfl,rfl,by simp,fun k hk _ hne => ?_⟩
  have hkg:k≠g:=by rintro rfl;exact hne hv
  simp only[Array.getElem?_modify]
  rw[if_neg (by omega)]
theorem turns_freeze(w:World)(b g:Nat)(v:Value)(n:Nat)(hv:v.ownBlock=some g):Turns w (w.drew.freeze ⟨g,0,none⟩ n) b v:=
 Turns.trans (w':=w.drew) ⟨rfl,rfl,rfl,zR _,fun _ _ _ _=>rfl⟩ (turns_freeze0 _ _ _ _ _ hv)
set_option maxHeartbeats 1000000 in
set_option maxRecDepth 100000 in
theorem bs_some(L:Lays.n169 P ρ)(X:Builder.Extra P ρ)(b:Nat)(p v:Value)(l:List UInt8)(w:World)(h:Bl (ρ.t 72) (ρ.t 5) b p v l.length (Lib.byteCells l) w)(h0:l≠[]) :
  Calls P (ρ.f 169) #[.pointer (some ⟨b,0,none⟩)] w fun e w'=>e = .returned (.string ⟨l.toArray⟩)∧Turns w w' b v:=by
 obtain⟨hbk,hown,hne⟩:=h
 have hl0:l.length≠0:=by simpa using h0
 obtain⟨g,cap,cur,rfl,hbg,hg,hnc,hcm,hcs,htake⟩ : ∃ g cap cur,v = .slice (some ⟨g,0,none⟩) l.length cap∧0≤g∧w.heap[g]?=some (.cells cur (ρ.t 5) (0,0))∧l.length≤cap∧cap≤maxLen∧cur.size=cap * 1∧cur.toList.take (l.length * 1)=Lib.byteCells l:=by
  rcases hown.2 with⟨_,hz⟩ | ⟨g,cap,cur,hv,r⟩
  ·exact absurd hz hl0
  ·exact⟨g,cap,cur,hv,r⟩
 have c1:w.drew.cell? ⟨b,1,none⟩=some (.slice (some ⟨g,0,none⟩) l.length cap):=by
  have:w.drew.heap[b]?=some (.cells #[p,.slice (some ⟨g,0,none⟩) l.length cap] (ρ.t 72) (0,0)):=hbk
  rw[Lib.cell_of_heap this];rfl
 have hSD:(Builtin.unsafeSliceData_ #[(ρ.t 37)] (ρ.t 127) #[.slice (some ⟨g,0,none⟩) l.length cap]).run P w.drew = .ok (.pointer (some ⟨g,0,none⟩)) w.drew:=
  Lib.run_unsafeSliceData_row _ _ _ _ _ _ (by omega)
 have hUS:(Builtin.unsafeString_ #[(ρ.t 127),(ρ.t 3)] (ρ.t 9) #[.pointer (some ⟨g,0,none⟩),.int .i64 l.length]).run P w.drew = .ok (.string ⟨l.toArray⟩) (w.drew.freeze ⟨g,0,none⟩ l.length):=by
  refine Lib.run_unsafeString_row w.drew (ρ.t 127) (ρ.t 3) (ρ.t 9) (ρ.t 5) L.t127 X.cellsByte g cur.size (by have hg':w.drew.heap[g]?=some (.cells cur (ρ.t 5) (0,0)):=hg;simp[World.shape?,hg']) l h0 (by omega) (by unfold maxLen at hcm;omega) ?_
  intro j x hx
  have:=hown.cells (g:=g) rfl j (.int .u8 x.toNat) (by simp[Lib.byteCells,hx])
  exact this
 have mixed:=L.mixed
 have t72:=L.t72;have a72:=L.a72;have z72:=L.z72;have v72:=L.v72;have u72:=run_underlying L.t72
 have t70:=L.t70;have a70:=L.a70;have z70:=L.z70;have v70:=L.v70;have u70:=run_underlying L.t70
 have t37:=L.t37;have a37:=L.a37;have z37:=L.z37;have v37:=L.v37;have u37:=run_underlying L.t37
 have t127:=L.t127;have a127:=L.a127;have z127:=L.z127;have v127:=L.v127;have u127:=run_underlying L.t127
 have t3:=L.t3;have a3:=L.a3;have z3:=L.z3;have v3:=L.v3;have u3:=run_underlying L.t3
 have t9:=L.t9;have a9:=L.a9;have z9:=L.z9;have v9:=L.v9;have u9:=run_underlying L.t9
 have t5:=X.t5;have a5:=X.a5;have z5:=X.z5;have v5:=X.v5;have u5:=run_underlying X.t5
 go_enter L.f169,Body.n169_ntmps ρ
 go_wp2
 go_region_o
 all_goals (go_wp2;go_ret;exact⟨rfl,turns_freeze w b g _ _ rfl⟩)
theorem bs_fine(L:Lays.n169 P ρ)(X:Builder.Extra P ρ)(b:Nat)(p v:Value)(l:List UInt8)(w:World)(h:Bl (ρ.t 72) (ρ.t 5) b p v l.length (Lib.byteCells l) w) :
  Calls P (ρ.f 169) #[.pointer (some ⟨b,0,none⟩)] w fun e w'=>e = .returned (.string ⟨l.toArray⟩)∧Turns w w' b v:=by
 by_cases h0:l=[]
 ·subst h0
  obtain⟨hbk,hown,hne⟩:=h
  have hfin:Calls P (ρ.f 169) #[.pointer (some ⟨b,0,none⟩)] w fun e w'=>e = .returned (.string ⟨#[]⟩)∧Below w.heap.size w w':=by
   rcases hown.2 with⟨rfl,_⟩ | ⟨g,cap,cur,rfl,_,hg,_⟩
   ·exact Any.Builder_String_nil L X w.heap.size b p w hbk
   ·by_cases hc:cap=0
    ·subst hc;exact Any.Builder_String_noroom L X w.heap.size b g p cur w (zR _) hbk hg
    ·exact Any.Builder_String_room L X w.heap.size b g cap p w hc hbk
  refine hfin.mono ?_
  rintro e w' ⟨rfl,hb⟩
  exact⟨rfl,Turns.below hb⟩
 ·exact bs_some L X b p v l w h h0
theorem byteW(s:List UInt8):ofBytesW s=Lib.byteCells s:=rfl
theorem does_eff{E:Env}{f:Nat}{args:Array Value}{w:World}{R:Ending→World→Prop}{B:Func}{c:Code}(hf:P.funcs[f]?=some B) (hn:(B.name == "runtime.NumGoroutine")=false) (hb:B.body=some c) (hc:Calls P f args w R):Does P f args w R:=
 .inl ⟨by
   have hn:B.name ≠ "runtime.NumGoroutine" := by simpa using hn
   simp[callFunc,hf,hn,hb],hc⟩
theorem bl_of{S:G}{st:St}(hi:Inv S st){k t e:Nat}{s:List UInt8}(hm:st.mem k=some (.bld t e s)){v0:Value}(hv:Rep S (.ptr k 0) v0) :
  ∃ b p v,v0 = .pointer (some ⟨b,0,none⟩)∧S.μ k=some b∧Bl t e b p v s.length (Lib.byteCells s) S.w∧(p = .pointer none∨p = .pointer (some ⟨b,0,none⟩)):=by
 cases hv with
 | ptr _ _ b hk hb=>
  obtain⟨_,ho⟩:=hi.ob k _ hm
  obtain⟨_,ho⟩:=ho b hb
  cases ho with
  | bld _ _ _ p v hh hp h0 hown hne hg=>exact⟨b,p,v,rfl,hb,⟨hh,hown,hne⟩,hp⟩
theorem strCells_of(s:List UInt8):Lib.strCells ⟨s.toArray⟩=Lib.byteCells s:=by simp[Lib.strCells,Lib.byteCells]
theorem does_ws(L:Lays.n166 P ρ)(X:Builder.Extra P ρ)(ds:List D)(st:St)(d:D)(st':St)(S:G)(vs:List Value)(h:effD (.ws (ρ.t 72) (ρ.t 5)) ds st=some (d,st'))(hi:Inv S st)(hr:RepL S ds vs) :
  Does P (ρ.f 166) vs.toArray S.w fun e w' => ∃ S',S'.w=w'∧Ext S S'∧Inv S' st' ∧ ∃ v,e = .returned v∧Rep S' d v:=by
 unfold effD at h
 split at h<;>try contradiction
 case h_1 t0 e0 k s he=>
  injection he with he1 he2
  subst he1 he2
  split at h<;>try contradiction
  next t' e' r hm=>
   split at h<;>try contradiction
   next hc=>
    obtain⟨rfl,rfl,hlen⟩:=hc
    simp only[Option.some.injEq,Prod.mk.injEq]at h
    obtain⟨rfl,rfl⟩:=h
    match vs,hr.1 with
    | [v0,v1],_=>
     have hv0:Rep S (.ptr k 0) v0:=hr.2 0 _ _ rfl rfl
     have hv1:Rep S (.str s) v1:=hr.2 1 _ _ rfl rfl
     cases hv1
     obtain⟨b,p,v,rfl,hb,hbl,hp⟩:=bl_of hi hm hv0
     refine does_eff (E:=⟨fun _=>none,fun _=>none,fun _=>none⟩) L.f166 (by kernel_rfl) (by rfl) ((ws_fine L X b p v _ _ ⟨s.toArray⟩ S.w hbl hp (by simpa[ByteArray.size]using hlen)).mono ?_)
     rintro e w' ⟨rfl,ht,v',⟨h1,h2,h3⟩,h4⟩
     obtain⟨S',k1,k2,k3⟩:=hi.turn hm hb hbl.cells ht (s':=r++s) h1 (.inr rfl) (by simpa[byteW,strCells_of,Lib.byteCells,ByteArray.size]using h2) h3 h4
     refine⟨S',k1,k2,k3,_,rfl,.tup _ _ rfl fun j d v hd hv => ?_⟩
     match j,hd,hv with
     | 0,hd,hv=>simp at hd hv;subst hd hv;exact .int _ _
     | 1,hd,hv=>simp at hd hv;subst hd hv;exact .nili
 all_goals (injection ‹_› with _ _)
theorem does_bs(L:Lays.n169 P ρ)(X:Builder.Extra P ρ)(ds:List D)(st:St)(d:D)(st':St)(S:G)(vs:List Value)(h:effD (.bs (ρ.t 72) (ρ.t 5)) ds st=some (d,st'))(hi:Inv S st)(hr:RepL S ds vs) :
  Does P (ρ.f 169) vs.toArray S.w fun e w' => ∃ S',S'.w=w'∧Ext S S'∧Inv S' st' ∧ ∃ v,e = .returned v∧Rep S' d v:=by
 unfold effD at h
 split at h<;>try contradiction
 case h_3 t0 e0 k he=>
  injection he with he1 he2
  subst he1 he2
  split at h<;>try contradiction
  next t' e' r hm=>
   split at h<;>try contradiction
   next hc=>
    obtain⟨rfl,rfl⟩:=hc
    simp only[Option.some.injEq,Prod.mk.injEq]at h
    obtain⟨rfl,rfl⟩:=h
    match vs,hr.1 with
    | [v0],_=>
     have hv0:Rep S (.ptr k 0) v0:=hr.2 0 _ _ rfl rfl
     obtain⟨b,p,v,rfl,hb,hbl,hp⟩:=bl_of hi hm hv0
     refine does_eff (E:=⟨fun _=>none,fun _=>none,fun _=>none⟩) L.f169 (by kernel_rfl) (by rfl) ((bs_fine L X b p v r S.w hbl).mono ?_)
     rintro e w' ⟨rfl,ht⟩
     obtain⟨S',k1,k2,k3⟩:=hi.gone hm hb hbl.cells ht
     exact⟨S',k1,k2,k3,_,rfl,.str _⟩
 all_goals (injection ‹_› with _ _)
end Go.Ev
end

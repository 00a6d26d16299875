/- Part of the proof that the law RegisterOrder returns true and leaves its arguments as they were, for all arguments of bulk at most 1048576 (the Upto form). -/
import Derived.Test.YthcbieoehjhjfaaGreatProg
import Derived.Shelf.RegionOpenPlain
import Derived.WalkKit
import Derived.Lib.Walk
import Derived.Lib.SliceRun
import Derived.Lib.JoinLaws
import Derived.Lib.AppendZeros
import Derived.Lib.AppendZerosOnto
import Derived.Lib.Overlaps
import Derived.Laws.Externs
import Derived.Laws.IdiomCopy
import Derived.Test.YthcbieoehjhjfaaGreatQ207
import Derived.Test.YthcbieoehjhjfaaGreatQ208
set_option linter.all false
set_option maxHeartbeats 4000000
set_option maxRecDepth 100000
section
set_option linter.all false
namespace Go.Proofs
open Go.Shelf Go.RowKit Go.Lib
section
variable {P:Program}
theorem ins_copyK (w:World){dT sT ty elem:TypeId}{sz b o dLen dCap:Nat}{a:Addr}{sLen sCap:Nat}{cs:List Value}
  (hu:P.underlying dT=some (.slice elem)) (hs:∀ w,(Go.sizeOf elem).run P w=.ok sz w) (hn:cs.length=Nat.min sLen dLen*sz)
  (hsrc:∀ j v,cs[j]? =some v->w.cell? (a.add j)=some v) (hc:∀ j,j<cs.length->(w.cell? ⟨b,o+j,none⟩).isSome=true) (hf:∀ j,j<cs.length->w.frozen? ⟨b,o+j,none⟩=false) (h1:∀ v∈cs,v.oneCell'=true):
  (Builtin.copy_ #[dT,sT] ty #[.slice (some ⟨b,o,none⟩) dLen dCap,.slice (some a) sLen sCap]).run P w=.ok (goInt (Nat.min sLen dLen)) (w.setCells b o cs):=by
 have hl:=run_loadCells_list (P:=P) w a cs hsrc;have hst:=run_storeCells_cells (P:=P) b o cs 0 w (by simpa using hc) (by simpa using hf) h1;simp[Builtin.copy_,run_underlying hu,Builtin.lenOf,Builtin.firstCells,hs,<-hn,hl,hst]
theorem ins_copyI (w:World){o:Oper}{a:Act}{K:Act->World->Prop}{Q:Exit->Act->World->Prop}(d s:Operand)(t t':TypeId)
  (ho:o.op=.call { callee:=.builtin .copy,args:= #[d,s],argTypes:= #[t,t']}) (v u:Value) (hd:a.eval d=v) (hs:a.eval s=u) {v':Value} {w':World}
  (hr:(Builtin.copy_ #[t,t'] o.type #[v,u]).run P w=.ok v' w') (h:K (a.put o.dst v') w'):o.wp P a w K Q:=by
 unfold Oper.wp execOp;simp only[ho,resolve,invoke,builtin,Sem.run_bind,Sem.run_pure,Result.andThen_ok,List.map_toArray,List.map_cons,List.map_nil,hd,hs,hr];exact h
theorem ins_copyL (w:World){ops:Array Oper}{rest:List Oper}{o:Oper}{a:Act}{Q:Exit->Act->World->Prop}(hgd:o.guard=none)(d s:Operand)(t t':TypeId)
  (ho:o.op=.call { callee:=.builtin .copy,args:= #[d,s],argTypes:= #[t,t']}) (v u:Value) (hd:a.eval d=v) (hs:a.eval s=u) {v':Value} {w':World}
  (hr:(Builtin.copy_ #[t,t'] o.type #[v,u]).run P w=.ok v' w') (h:wpList P ops Q rest (a.put o.dst v') w'):wpList P ops Q (o::rest) a w:=
 wpList_plain hgd fun _ hK=>ins_copyI w d s t t' ho v u hd hs hr (hK _ _ h)
theorem ins_copyS {ops:Array Oper}{o:Oper}{a:Act}{w:World}{K:Act->World->Prop}{Q:Exit->Act->World->Prop}{E:Prop}
  (hg:o.guard=none) (d x:Operand) (dT sT:TypeId) (hop:o.op=Op.call { callee:=Callee.builtin Builtin.copy,args:= #[d,x],argTypes:= #[dT,sT]})
  (v u:Value) (hd:a.eval d=v) (hx:a.eval x=u) {v':Value} {w':World} (hr:(Builtin.copy_ #[dT,sT] o.type #[v,u]).run P w=.ok v' w') (hK:K (a.put o.dst v') w'):
  if Region.wanted o (yielded ops a.tmps)=true then Oper.wp P o a w K Q else E:=by
 have hw:Region.wanted o (yielded ops a.tmps)=true:=by simp[Region.wanted,hg]
 rw[if_pos hw];unfold Oper.wp;simp[execOp,hop,resolve,invoke,builtin,hd,hx,hr,Result.andThen];exact hK
theorem ins_isSome (b:Nat)(vs:List Value)(o:Nat)(w:World)(h:∀ j,j<vs.length->(w.cell? ⟨b,o+j,none⟩).isSome=true)(k:Nat)(hk:(w.cell? ⟨b,k,none⟩).isSome=true):((w.setCells b o vs).cell? ⟨b,k,none⟩).isSome=true:=by
 by_cases hin:o<=k/\k<o+vs.length
 ·have:=World.cell?_setCells_in b vs o w h (k - o) (by omega);rw[show o+(k - o)=k by omega]at this;rw[this];rfl
 ·rw[World.cell?_setCells_out b vs o w ⟨b,k,none⟩ (fun _ _=>by show k<o\/o+vs.length<=k;omega)];exact hk
end
set_option maxRecDepth 100000 in
theorem insD_shift (b off n c i vb voff m vc:Nat)(cs vs:List Value)(w:World)(hi:i<n)(hm:0<m)(hroom:n+m<=c)(hc63:n+m<=140737488355328)(hvb:vb≠b)
  (hcl:cs.length=n*9) (hvl:vs.length=m*9)
  (hcs:∀ j v,cs[j]? =some v->w.cell? ⟨b,off+j,none⟩=some v) (hsp:∀ j,j< (n+m)*9->(w.cell? ⟨b,off+j,none⟩).isSome=true) (hfz:∀ j,j< (n+m)*9->w.frozen? ⟨b,off+j,none⟩=false)
  (hvs:∀ j v,vs[j]? =some v->w.cell? ⟨vb,voff+j,none⟩=some v) (h1c:∀ v∈cs,v.oneCell'=true) (h1v:∀ v∈vs,v.oneCell'=true)
  (tA tB:TypeId) (kA kB:Nat) (hsa:w.shape? vb=some (tA,kA)) (hsb:w.shape? b=some (tB,kB)) (hkB:kB≠0) (hfa:w.frozen? ⟨vb,voff,none⟩=false) (hfe:w.frozen? ⟨vb,kA,none⟩=false):
  Calls Tryz.prog 39 #[.slice (some ⟨b,off,none⟩) n c,.int .i64 i,.slice (some ⟨vb,voff,none⟩) m vc] w fun e w'=>
   e=.returned (.slice (some ⟨b,off,none⟩) (n+m) c)/\w'=(w.drew.setCells b (off+(i+m)*9) (cs.drop (i*9))).setCells b (off+i*9) vs:=by
 have t0:=Tryz.underlying32;have a0:=Tryz.isAgg32;have z0:=Tryz.sizeOf32;have v0:=Tryz.zeroValue32;have t3:=Tryz.underlying3;have a3:=Tryz.isAgg3;have z3:=Tryz.sizeOf3;have v3:=Tryz.zeroValue3;have t4:=Tryz.underlying4;have a4:=Tryz.isAgg4;have z4:=Tryz.sizeOf4;have v4:=Tryz.zeroValue4;have t9:=Tryz.underlying35;have a9:=Tryz.isAgg35;have z9:=Tryz.sizeOf35;have v9:=Tryz.zeroValue35;have u0:=run_underlying Tryz.underlying32;have u3:=run_underlying Tryz.underlying3;have u4:=run_underlying Tryz.underlying4;have u9:=run_underlying Tryz.underlying35;have hz1:¬ ((m:Int)=0):=by omega
 have hz2:¬ ((i:Int)=(n:Int)):=by omega
 have hov:∀ lb cb,(callFunc 63 #[.slice (some ⟨vb,voff,none⟩) m vc,.slice (some ⟨b,off+(i+m)*9,none⟩) lb cb]).run Tryz.prog w=.ok (.value (.bool false)) w:=fun lb cb=>by
  rw[run_callFunc_extern Tryz.func63 (by kernel_rfl) (by kernel_rfl) (by kernel_rfl) (e:=Extern.SlicesOverlaps.overlaps #[32,32] #[4]) (by kernel_rfl),
   Lib.run_overlaps_apart w 32 4 35 Tryz.underlying32 9 Tryz.sizeOf35 ⟨vb,voff,none⟩ ⟨b,off+(i+m)*9,none⟩ m vc lb cb hvb tA tB kA kB hsa hsb hkB hfa hfe]
  rfl
 have hdl:(cs.drop (i*9)).length=(n - i)*9:=by rw[List.length_drop,hcl];omega
 have mixed:Tryz.prog.follows .mixedOrders=true:=by kernel_rfl
 have hw1:IntKind.i64.wrap ((i:Int)+(m:Int))=(i:Int)+(m:Int):=by rw[IntKind.wrap_i64];omega
 have hb1:(0:Int)<=(i:Int)+(m:Int):=by omega
 have hin:i<=n:=by omega
 have htn:((i:Int)+(m:Int)).toNat=i+m:=by omega
 have hb2:¬ (c=i+m):=by omega
 have hb3:(i:Int)<=(n:Int)+(m:Int):=by omega
 have hb4:¬ (c=i):=by omega
 have hcp1:∀ ty dc sc,(Builtin.copy_ #[32,32] ty #[.slice (some ⟨b,off+(i+m)*9,none⟩) (n+m - (i+m)) dc,.slice (some ⟨b,off+i*9,none⟩) (n+m - i) sc]).run Tryz.prog w.drew=.ok (goInt (n - i:Nat)) (w.drew.setCells b (off+(i+m)*9) (cs.drop (i*9))):=fun ty dc sc=>by
  have hmin:Nat.min (n+m - i) (n+m - (i+m))=n - i:=by simp only[Nat.min_def];split <;>omega
  have:=ins_copyK (P:=Tryz.prog) (dT:=32) (sT:=32) (ty:=ty) (elem:=35) (sz:=9) (b:=b) (o:=off+(i+m)*9) (dLen:=n+m - (i+m)) (dCap:=dc) (a:=⟨b,off+i*9,none⟩) (sLen:=n+m - i) (sCap:=sc) (cs:=cs.drop (i*9)) w.drew Tryz.underlying32 Tryz.sizeOf35 (by rw[hdl,hmin])
   (fun j v hj=>by rw[Addr.add_lit,Nat.add_assoc];exact hcs (i*9+j) v (by rwa[List.getElem?_drop]at hj))
   (fun j hj=>by rw[Nat.add_assoc];exact hsp _ (by omega)) (fun j hj=>by rw[Nat.add_assoc];exact hfz _ (by omega)) (fun v hv=>h1c v (List.mem_of_mem_drop hv))
  rw[hmin]at this;exact this
 obtain⟨W1,hW1⟩:∃ W1,W1=w.drew.setCells b (off+(i+m)*9) (cs.drop (i*9)):=⟨_,rfl⟩;have hsp1:∀ k,k< (n+m)*9->(W1.cell? ⟨b,off+k,none⟩).isSome=true:=fun k hk=>by
  rw[hW1];exact ins_isSome b _ _ _ (fun j hj=>by rw[Nat.add_assoc];exact hsp _ (by omega)) _ (hsp k hk)
 have hcp2:∀ (W:World),(∀ x,W.cell? x=W1.cell? x)->(∀ x,W.frozen? x=W1.frozen? x)->∀ ty dc,(Builtin.copy_ #[32,32] ty #[.slice (some ⟨b,off+i*9,none⟩) (n+m - i) dc,.slice (some ⟨vb,voff,none⟩) m vc]).run Tryz.prog W=.ok (goInt m) (W.setCells b (off+i*9) vs):=fun W hWc hWf ty dc=>by
  have hmin:Nat.min m (n+m - i)=m:=by simp only[Nat.min_def];split <;>omega
  have:=ins_copyK (P:=Tryz.prog) (dT:=32) (sT:=32) (ty:=ty) (elem:=35) (sz:=9) (b:=b) (o:=off+i*9) (dLen:=n+m - i) (dCap:=dc) (a:=⟨vb,voff,none⟩) (sLen:=m) (sCap:=vc) (cs:=vs) W Tryz.underlying32 Tryz.sizeOf35 (by rw[hvl,hmin])
   (fun j v hj=>by
    rw[Addr.add_lit,hWc,hW1,World.cell?_setCells_out b _ _ _ _ (fun h _=>absurd h hvb)];exact hvs j v hj)
   (fun j hj=>by rw[hWc,Nat.add_assoc];exact hsp1 _ (by omega)) (fun j hj=>by rw[hWf,hW1,World.frozen?_setCells,Nat.add_assoc];exact hfz _ (by omega)) h1v
  rw[hmin]at this;exact this
 rw[<-hW1]at hcp1
 go_enter Tryz.func39,Tryz.ntmps39
 go_wp2_with (simp only[hov])
 go_region_law_o (refine ins_copyS rfl _ _ 32 32 rfl _ _ (by simp[Act.eval,Act.put]) (by simp[Act.eval,Act.put]) (hcp1 _ _ _) ?_)
 go_wp2_with (at_builtin;refine ins_copyL _ rfl _ _ 32 32 rfl _ _ rfl rfl (hcp2 _ (fun _=>rfl) (fun _=>rfl) _ _) ?_)
 go_ret
 first|exact⟨rfl,rfl⟩ |exact⟨rfl,by rw[hW1]⟩
set_option maxRecDepth 100000 in
theorem insD_grow (b off n c i vb voff m vc:Nat)(cs vs:List Value)(w:World)(hi:i<n)(hm:0<m)(hnc:n<=c)(hroom:c<n+m)(hbig:(n+m)*88<=140737488355328)
  (hcl:cs.length=n*9) (hvl:vs.length=m*9)
  (hcs:∀ j v,cs[j]? =some v->w.cell? ⟨b,off+j,none⟩=some v)
  (hvs:∀ j v,vs[j]? =some v->w.cell? ⟨vb,voff+j,none⟩=some v) (h1c:∀ v∈cs,v.oneCell'=true) (h1v:∀ v∈vs,v.oneCell'=true):
  Calls Tryz.prog 39 #[.slice (some ⟨b,off,none⟩) n c,.int .i64 i,.slice (some ⟨vb,voff,none⟩) m vc] w fun e w'=>
   e=.returned (.slice (some ⟨w.heap.size,0,none⟩) (n+m) (grownCap w (n+m) c 35))/\∃ ROW:Array Value,ROW.size=grownCap w (n+m) c 35*9/\(∀ j v,j<i*9->cs[j]? =some v->ROW[j]? =some v)/\
   w'=(((w.alloc (.cells ROW 35)).drew.setCells w.heap.size (i*9) vs).drew).setCells w.heap.size ((i+m)*9) (cs.drop (i*9)):=by
 have t0:=Tryz.underlying32;have a0:=Tryz.isAgg32;have z0:=Tryz.sizeOf32;have v0:=Tryz.zeroValue32;have t3:=Tryz.underlying3;have a3:=Tryz.isAgg3;have z3:=Tryz.sizeOf3;have v3:=Tryz.zeroValue3;have t4:=Tryz.underlying4;have a4:=Tryz.isAgg4;have z4:=Tryz.sizeOf4;have v4:=Tryz.zeroValue4;have u0:=run_underlying Tryz.underlying32;have u3:=run_underlying Tryz.underlying3;have u4:=run_underlying Tryz.underlying4;have mixed:Tryz.prog.follows .mixedOrders=true:=by kernel_rfl
 obtain⟨i0,hi0,hz0,hzs,hzb⟩:∃ i0,Tryz.prog.info? 35=some i0/\i0.zero=some (.agg #[.int .i64 0,.int .i64 0,.int .i64 0,.int .i64 0,.int .i64 0,.slice none 0 0,.int .i64 0,.int .i64 0,.int .i64 0])/\i0.size=9/\i0.bytes=88:=⟨_,rfl,rfl,rfl,rfl⟩;have hz1:¬ ((m:Int)=0):=by omega
 have hz2:¬ ((i:Int)=(n:Int)):=by omega
 have hz3:(c:Int) < (n:Int)+(m:Int):=by omega
 have hbw:b<w.heap.size:=block_lt_of_cell (hcs 0 _ (List.getElem?_eq_getElem (by omega)));have hvw:vb<w.heap.size:=block_lt_of_cell (hvs 0 _ (List.getElem?_eq_getElem (by omega)));have hkk:(n:Int)+(m:Int) - (i:Int)=((n+m - i:Nat):Int):=by omega
 have hik:i+(n+m - i)=n+m:=by omega
 have hold:(Builtin.firstCells i0.size i (.slice (some ⟨b,off,none⟩) i c)).run Tryz.prog w.drew=.ok (cs.take (i*9)).toArray w.drew:=by
  rw[hzs];exact run_firstCells_some w.drew 9 i ⟨b,off,none⟩ i c (cs.take (i*9)) (by rw[List.length_take];omega) (fun j v hj=>by
   rw[Addr.add_lit];rw[List.getElem?_take]at hj;split at hj
   ·exact hcs j v hj
   ·cases hj)
 have hrz:∀ ty,(Builtin.append_ #[32,3] ty #[.slice (some ⟨b,off,none⟩) i c,.int .i64 ((n:Int)+(m:Int) - (i:Int))]).run Tryz.prog w=
   .ok (.slice (some ⟨w.heap.size,0,none⟩) (n+m) (grownCap w (n+m) c 35)) (w.drew.alloc (.cells ((cs.take (i*9)).toArray++Builtin.zeroCells (Value.agg #[.int .i64 0,.int .i64 0,.int .i64 0,.int .i64 0,.int .i64 0,.slice none 0 0,.int .i64 0,.int .i64 0,.int .i64 0]).cells (n+m - i)++Builtin.zeroCells (Value.agg #[.int .i64 0,.int .i64 0,.int .i64 0,.int .i64 0,.int .i64 0,.slice none 0 0,.int .i64 0,.int .i64 0,.int .i64 0]).cells (grownCap w (n+m) c 35 - (n+m))) 35)):=fun ty=>by
  have h:=Lib.run_append_grow_zeros (P:=Tryz.prog) w 32 3 ty 35 i0 _ .i64 .i64 Tryz.underlying32 Tryz.underlying3 hi0 hz0 (some ⟨b,off,none⟩) i c (cs.take (i*9)) hold (n+m - i) (by omega) (by omega) (by omega) (by omega) (by rw[hzb];omega) (by rw[hzb,hik];exact growslice_fits hroom hbig);rw[hik]at h;rw[hkk];exact h
 obtain⟨G,hG⟩:∃ G,G=grownCap w (n+m) c 35:=⟨_,rfl⟩;obtain⟨ROW,hROW⟩:∃ ROW:Array Value,ROW=(cs.take (i*9)).toArray++Builtin.zeroCells (Value.agg #[.int .i64 0,.int .i64 0,.int .i64 0,.int .i64 0,.int .i64 0,.slice none 0 0,.int .i64 0,.int .i64 0,.int .i64 0]).cells (n+m - i)++Builtin.zeroCells (Value.agg #[.int .i64 0,.int .i64 0,.int .i64 0,.int .i64 0,.int .i64 0,.slice none 0 0,.int .i64 0,.int .i64 0,.int .i64 0]).cells (G - (n+m)):=⟨_,rfl⟩;rw[<-hG]at hrz |-;rw[<-hROW]at hrz;have hGn:n+m<=G:=by rw[hG];exact grownCap_ge w _ _ _
 have hzc:∀ k,(Builtin.zeroCells (Value.agg #[.int .i64 0,.int .i64 0,.int .i64 0,.int .i64 0,.int .i64 0,.slice none 0 0,.int .i64 0,.int .i64 0,.int .i64 0]).cells k).size=k*9:=fun k=>by
  simp[Builtin.zeroCells,Value.cells,Nat.mul_comm]
 have hRs:ROW.size=G*9:=by
  rw[hROW,Array.size_append,Array.size_append,hzc,hzc,List.size_toArray,List.length_take];omega
 have hRl:(n+m)*9<=ROW.size:=by omega
 have hRt:∀ j v,j<i*9->cs[j]? =some v->ROW[j]? =some v:=fun j v hj hv=>by
  have hjl:=(List.getElem?_eq_some_iff.1 hv).1;rw[hROW,Array.getElem?_append_left (by rw[Array.size_append,List.size_toArray,List.length_take];omega),Array.getElem?_append_left (by rw[List.size_toArray,List.length_take];omega)];simp[List.getElem?_take,hj,hv]
 obtain⟨W1,hW1⟩:∃ W1,W1=w.drew.alloc (.cells ROW 35):=⟨_,rfl⟩;rw[<-hW1]at hrz;have hN:∀ j,j< (n+m)*9->(W1.cell? ⟨w.heap.size,j,none⟩).isSome=true:=fun j hj=>by
  rw[hW1,World.cell?_alloc_at (w:=w.drew) ROW _ w.heap.size j rfl,Array.getElem?_eq_getElem (by omega)];rfl
 have hNf:∀ j,W1.frozen? ⟨w.heap.size,j,none⟩=false:=fun j=>by rw[hW1];exact World.frozen?_alloc_at (w:=w.drew) ROW _ w.heap.size j rfl
 have hOb:∀ j v,w.cell? ⟨b,j,none⟩=some v->W1.cell? ⟨b,j,none⟩=some v:=fun j v h=>by rw[hW1,World.cell?_alloc_past (w:=w.drew) _ b j hbw];exact h
 have hOv:∀ j v,w.cell? ⟨vb,j,none⟩=some v->W1.cell? ⟨vb,j,none⟩=some v:=fun j v h=>by rw[hW1,World.cell?_alloc_past (w:=w.drew) _ vb j hvw];exact h
 have hcpA:∀ (W:World),(∀ x,W.cell? x=W1.cell? x)->(∀ x,W.frozen? x=W1.frozen? x)->∀ ty dc,(Builtin.copy_ #[32,32] ty #[.slice (some ⟨w.heap.size,i*9,none⟩) (n+m - i) dc,.slice (some ⟨vb,voff,none⟩) m vc]).run Tryz.prog W=.ok (goInt m) (W.setCells w.heap.size (i*9) vs):=fun W hWc hWf ty dc=>by
  have hmin:Nat.min m (n+m - i)=m:=by simp only[Nat.min_def];split <;>omega
  have:=ins_copyK (P:=Tryz.prog) (dT:=32) (sT:=32) (ty:=ty) (elem:=35) (sz:=9) (b:=w.heap.size) (o:=i*9) (dLen:=n+m - i) (dCap:=dc) (a:=⟨vb,voff,none⟩) (sLen:=m) (sCap:=vc) (cs:=vs) W Tryz.underlying32 Tryz.sizeOf35 (by rw[hvl,hmin])
   (fun j v hj=>by rw[Addr.add_lit,hWc];exact hOv _ v (hvs j v hj))
   (fun j hj=>by rw[hWc];exact hN _ (by omega)) (fun j hj=>by rw[hWf];exact hNf _) h1v
  rw[hmin]at this;exact this
 have hG63:G<=9223372036854775807:=by
  have:=grownCap_le_maxLen w (n+m) c 35 (by unfold maxLen;omega);rw[<-hG]at this;unfold maxLen at this;omega
 have hGi:¬ (G=i):=by omega
 have hGim:¬ (G=i+m):=by omega
 have hci:¬ (c=i):=by omega
 have hbN:b≠w.heap.size:=by omega
 have hdl:(cs.drop (i*9)).length=(n - i)*9:=by rw[List.length_drop,hcl];omega
 have hcpB:∀ (W:World),(∀ x,W.cell? x=(W1.setCells w.heap.size (i*9) vs).cell? x)->(∀ x,W.frozen? x=(W1.setCells w.heap.size (i*9) vs).frozen? x)->∀ ty dc sc,(Builtin.copy_ #[32,32] ty #[.slice (some ⟨w.heap.size,(i+m)*9,none⟩) (n+m - (i+m)) dc,.slice (some ⟨b,off+i*9,none⟩) (n - i) sc]).run Tryz.prog W=.ok (goInt (n - i:Nat)) (W.setCells w.heap.size ((i+m)*9) (cs.drop (i*9))):=fun W hWc hWf ty dc sc=>by
  have hmin:Nat.min (n - i) (n+m - (i+m))=n - i:=by simp only[Nat.min_def];split <;>omega
  have:=ins_copyK (P:=Tryz.prog) (dT:=32) (sT:=32) (ty:=ty) (elem:=35) (sz:=9) (b:=w.heap.size) (o:=(i+m)*9) (dLen:=n+m - (i+m)) (dCap:=dc) (a:=⟨b,off+i*9,none⟩) (sLen:=n - i) (sCap:=sc) (cs:=cs.drop (i*9)) W Tryz.underlying32 Tryz.sizeOf35 (by rw[hdl,hmin])
   (fun j v hj=>by
    rw[Addr.add_lit,hWc,World.cell?_setCells_out _ _ _ _ _ (fun h _=>absurd h hbN),Nat.add_assoc];exact hOb _ v (hcs (i*9+j) v (by rwa[List.getElem?_drop]at hj)))
   (fun j hj=>by rw[hWc];exact ins_isSome _ _ _ _ (fun t ht=>hN _ (by omega)) _ (hN _ (by omega)))
   (fun j hj=>by rw[hWf,World.frozen?_setCells];exact hNf _) (fun v hv=>h1c v (List.mem_of_mem_drop hv))
  rw[hmin]at this;exact this
 subst hW1;have hE1:∀ x,((w.alloc (.cells ROW 35)).drew).cell? x=(w.drew.alloc (.cells ROW 35)).cell? x:=fun x=>rfl;have hE2:∀ x,((w.alloc (.cells ROW 35)).drew).frozen? x=(w.drew.alloc (.cells ROW 35)).frozen? x:=fun x=>rfl;have hF1:∀ x,(((w.alloc (.cells ROW 35)).drew.setCells w.heap.size (i*9) vs).drew).cell? x=((w.drew.alloc (.cells ROW 35)).setCells w.heap.size (i*9) vs).cell? x:=fun x=>rfl;have hF2:∀ x,(((w.alloc (.cells ROW 35)).drew.setCells w.heap.size (i*9) vs).drew).frozen? x=((w.drew.alloc (.cells ROW 35)).setCells w.heap.size (i*9) vs).frozen? x:=fun x=>rfl;have hw1:IntKind.i64.wrap ((i:Int)+(m:Int))=(i:Int)+(m:Int):=by rw[IntKind.wrap_i64];omega
 have hb1:(0:Int)<=(i:Int)+(m:Int):=by omega
 have hin:i<=n:=by omega
 have htn:((i:Int)+(m:Int)).toNat=i+m:=by omega
 have hb3:(i:Int)<=(n:Int):=by omega
 have t9:=Tryz.underlying35;have a9:=Tryz.isAgg35;have z9:=Tryz.sizeOf35;have v9:=Tryz.zeroValue35;have u9:=run_underlying Tryz.underlying35;clear hkk hik hold hROW hG
 go_enter Tryz.func39,Tryz.ntmps39
 go_wp2_with (first
  |(at_builtin;refine Lib.wpList_append_run _ rfl _ _ _ _ rfl _ _ rfl rfl _ _ (hrz _) ?_)
  |(at_builtin;refine ins_copyL _ rfl _ _ 32 32 rfl _ _ rfl rfl (hcpA _ hE1 hE2 _ _) ?_)
  |(at_builtin;refine ins_copyL _ rfl _ _ 32 32 rfl _ _ rfl rfl (hcpB _ (fun _=>rfl) (fun _=>rfl) _ _ _) ?_))
 go_region_law_o (refine ins_copyS rfl _ _ 32 32 rfl (.slice (some ⟨w.heap.size,(i+m)*9,none⟩) (n+m - (i+m)) (G - (i+m))) (.slice (some ⟨b,off+i*9,none⟩) (n - i) (c - i)) (by simp[Act.eval,Act.put]) (by simp[Act.eval,Act.put]) (hcpB _ hF1 hF2 3 (G - (i+m)) (c - i)) ?_)
 go_wp2
 go_ret
 exact⟨rfl,ROW,hRs,hRt,rfl⟩
end Go.Proofs
end
section
namespace Go.Sx
open Go.RowKit
def orC {α:Type 1}:Option α->Option α->Option α
 |some x,_=>some x
 |none,y=>y
@[go_sem] theorem OH {α:Type 1}{x:α}{y:Option α}:orC (some x) y=some x:=(rfl)
@[go_sem] theorem OI {α:Type 1}{y:Option α}:orC none y=y:=(rfl)
theorem nV {α:Type 1}{a b:Option α}{c:α}(h:orC a b=some c):a=some c\/b=some c:=by
 cases a with
 |none=>exact .inr h
 |some x=>exact .inl h
theorem FnOkO.or {P:Program}{f:FuncId}{C D:List SV->List Ob->Option HCon}(h1:FnOkO P f C)(h2:FnOkO P f D):FnOkO P f (fun l h=>orC (C l h) (D l h)):=
 ⟨fun l h c hc=>by rcases nV hc with e|e;exact h1.enter l h c e;exact h2.enter l h c e,
  fun l h c hc=>by rcases nV hc with e|e;exact h1.calls l h c e;exact h2.calls l h c e⟩
theorem FnOk.or {P:Program}{f:FuncId}{C D:List SV->Option Con}(h1:FnOk P f C)(h2:FnOk P f D):FnOk P f (fun l=>orC (C l) (D l)):=
 ⟨fun l c hc=>by rcases nV hc with e|e;exact h1.enter l c e;exact h2.enter l c e,
  fun l c hc=>by rcases nV hc with e|e;exact h1.calls l c e;exact h2.calls l c e⟩
end Go.Sx
end
section
namespace Go.Sx
open Go.Proofs
open IntKind (i64)
def aJ (n:Int)(lo:Int)(hi:Int):Bool:=((decide (n>=lo))&&(decide (n<=hi)))
@[go_sem] def ib:List SV->Option Con:=(pI fun n=>(pI fun lo=>(pI fun hi=>(pE (.det True (.v (.bool (aJ n lo hi))))))))
theorem iU:FnOk Tryz.prog 47 ib:=by
 have hG:ConsOk Tryz.prog (mkG [] []):=aV cg0 cg0;refine cj [.o] mixed aC hG (fn:=Tryz.f47) (c:=ag Tryz.f47) kr kr kr kr (d_ fun n=>(d_ fun lo=>(d_ fun hi=>(bw (fun hp=>?_)))));dsimp only[bb]at hp;refine⟨nbl rfl,L0,ak _,?_⟩
 ·unfold ag Tryz.f47;try unfold aJ
  exact zq1
def ic (x:Deed):Bool:=letI q1:=(x.parts.length:Int) ==0;letI q2:=x.of_==0;letI q3:=x.to==0;letI q0:=(((x.right==0)&&(x.since==0))&&q3)&&q1;(bif(x.kind==1)then(q1&&q2)else(bif(x.kind==2)then(q3&&q2)else(bif(x.kind==3)then((q3&&q1)&&q2)else(bif(x.kind==4)then q0 else(q0&&q2)))))
@[go_sem] def mQ:List SV->Option Con:=(pD .deed fun x=>(pE (.det True (.v (.bool (ic x))))))
theorem qU:FnOk Tryz.prog 66 mQ:=by
 have hG:ConsOk Tryz.prog (mkG [] []):=aV cg0 cg0;refine cj [.o] mixed aC hG (fn:=Tryz.f66) (c:=ag Tryz.f66) kr kr kr kr (cq fun x=>(bw (fun hp=>?_)));dsimp only[bb]at hp;refine⟨nbl rfl,L0,ak _,?_⟩
 ·unfold ag Tryz.f66;try unfold ic
  exact zq1
@[go_sem] def eW (d:District)(l_:List Part)(k_0:Nat)(s_0:Int×Int×List (Int×Bool)):Unit⊕(Int×Int×List (Int×Bool)):=letI q1:=l_.getD k_0 default;letI q0:=fW ({ n:=s_0.1,d:=s_0.2.1}:Ratio) (q1.share);(bif(((!(aJ (q1.farm) 0 (i64.wrap ((d.farms.length:Int) - 1)))) ||(dG .int .bool s_0.2.2 (q1.farm))) ||(decide (q1.share.n<=0)))then .inl ()else(bif(q0.2 !=0)then .inl ()else .inr ((q0.1).n,(q0.1).d,(fe .int .bool s_0.2.2 (q1.farm) true))))
def gW (d:District)(l_:List Part)(k_0:Nat)(s_0:Int×Int×List (Int×Bool)):Prop:=letI q0:=l_.getD k_0 default;(d.farms.length<=bR->((((!(aJ (q0.farm) 0 (i64.wrap ((d.farms.length:Int) - 1)))) ||(dG .int .bool s_0.2.2 (q0.farm))) ||(decide (q0.share.n<=0)))=false->(lv ({ n:=s_0.1,d:=s_0.2.1}:Ratio) (q0.share))))
def gu (d:District)(l_:List Part):Bool:=(match aq (eW d l_) l_.length 0 (0,1,[])with| .inl x_0_0=>false| .inr s_0=>((aJ (l_.length:Int) 1 16)&&((s_0.1==1)&&(s_0.2.1==1))))
def gK (d:District)(l_:List Part):Prop:=(l_.length<=bR->okI (eW d l_) (gW d l_) l_.length 0 (0,1,[]))
@[go_sem] def lZ:List SV->Option Con:=(pD .district fun d=>(pR .part fun l_=>(pE (.det (gK d l_) (.v (.bool (gu d l_)))))))
theorem p8:FnOk Tryz.prog 67 lZ:=by
 have hG:ConsOk Tryz.prog (mkG [(47,ib),(91,rD)] []):=aV (cgc iU (cgc wV cg0)) cg0;refine cj [.o] mixed aC hG (fn:=Tryz.f67) (c:=ag Tryz.f67) kr kr kr kr (cq fun d=>(gn fun l_=>(bw (fun hp=>?_))));dsimp only[bb]at hp;unfold gK at hp;refine⟨nbl rfl,(fun id st=>bif Nat.beq id 0 then some (LCR (ρ:=Unit) (σ:=(Int×Int×List (Int×Bool))) 3 [] [0,1,2] (fun k_0 s_0=>⟨[(1,.rs .part l_),(2,.ptr 0 0),(5,.ptr 2 0),(6,.os 1),(13,.rs .part l_),(14,.v (.int .i64 (l_.length:Int))),(15,.v (.int .i64 (k_0:Int)))],[.cells (cellsOf .district d),.mp .int .bool s_0.2.2 none,.cells [.v (.int .i64 s_0.1),.v (.int .i64 s_0.2.1)]]⟩) (eW d l_) (gW d l_) l_.length (0,1,[]) (l_.length<=bR) (fun _=>.ret) (fun x_0_0=>⟨[(4,.v (.bool false))],[.dead,.dead,.dead]⟩) st)else none),?_,?_⟩
 ·unfold ag Tryz.f67;simp only[ap,true_and,and_true]
  ·refine ew mixed aC hG kr (fun _=>rfl) (l_.length:Int) rfl mT (fun hb0 k_0 s_0 hlt0 hq0 hw hc=>⟨L0,ak _,?_⟩) (fun hb0 s_0 hc=>?_)
   ·unfold gW at hq0;try simp only[hw,Int.toNat_natCast]at hq0
    exact dH (jl [0,1,2])
   ·exact dI (jl [0,1,2])
 ·unfold ag Tryz.f67;try unfold gu
  exact zq1
def cp (a0:District)(a1:List (Int×Deed))(a2:Deed):Bool:=letI q1:=i64.wrap ((a0.farms.length:Int) - 1);letI q0:=((aJ a2.right 0 (i64.wrap ((a0.rights.length:Int) - 1)))&&((a0.rights.getD (Int.toNat a2.right) default).kind==1))&&(aJ a2.since 0 q1);letI q2:=dG .int .deed a1 a2.of_;(bif((((!(aJ a2.no 0 1048576)) ||(!(aJ a2.at_ 0 4096))) ||(!(aJ a2.known 0 1048576))) ||(!(ic a2)))then false else(bif(a2.kind==1)then((q0&&(aJ a2.to 0 q1))&&(a2.to !=a2.since))else(bif(a2.kind==2)then(q0&&(gu a0 a2.parts))else(bif(a2.kind==3)then q0 else(bif(a2.kind==4)then(((mZ .int .deed a1 a2.of_)&&(q2.kind !=4))&&(decide (a2.known>=q2.known)))else false)))))
def ip (a0:District)(a1:List (Int×Deed))(a2:Deed):Prop:=letI q1:=(a0.rights.length:Int);letI q0:=aJ a2.right 0 (i64.wrap (q1 - 1));(((((!(aJ a2.no 0 1048576)) ||(!(aJ a2.at_ 0 4096))) ||(!(aJ a2.known 0 1048576))) ||(!(ic a2)))=false->(a0.farms.length<=bR->(a0.rights.length<=bR->((q0=true->(0<=a2.right/\a2.right<q1))/\((a2.kind==1)=false->((a2.kind==2)=true->(((q0&&((a0.rights.getD (Int.toNat a2.right) default).kind==1))&&(aJ a2.since 0 (i64.wrap ((a0.farms.length:Int) - 1))))=true->(gK a0 a2.parts))))))))
@[go_sem] def mR:List SV->Option Con:=(pD .district fun a0=>(pM .int .deed fun a1=>(pD .deed fun a2=>(pE (.det (ip a0 a1 a2) (.v (.bool (cp a0 a1 a2))))))))
theorem qV:FnOk Tryz.prog 43 mR:=by
 have hG:ConsOk Tryz.prog (mkG [(47,ib),(66,fun l=>mQ (dJ [.st .deed] l)),(67,fun l=>lZ (dJ [.st .district,.sl .part] l))] []):=aV (cgc iU (cgc (qU.norm [.st .deed]) (cgc (p8.norm [.st .district,.sl .part]) cg0))) cg0;refine cj [.o] mixed aC hG (fn:=Tryz.f43) (c:=ag Tryz.f43) kr kr kr kr (cq fun a0=>(Kq fun a1=>(cq fun a2=>(bw (fun hp=>?_)))));dsimp only[bb]at hp;unfold ip at hp;refine⟨nbl rfl,L0,ak _,?_⟩
 ·unfold ag Tryz.f43;try unfold cp
  exact zq1
def cF (x:Deed):Bool:=(decide ((x.parts.length:Int) > 16))
@[go_sem] def kW:List SV->Option Con:=(pD .deed fun x=>(pE (.det True (.v (.bool (cF x))))))
theorem oh:FnOk Tryz.prog 42 kW:=by
 have hG:ConsOk Tryz.prog (mkG [] []):=aV cg0 cg0;refine cj [.o] mixed aC hG (fn:=Tryz.f42) (c:=ag Tryz.f42) kr kr kr kr (cq fun x=>(bw (fun hp=>?_)));dsimp only[bb]at hp;refine⟨nbl rfl,L0,ak _,?_⟩
 ·unfold ag Tryz.f42;try unfold cF
  exact zq1
@[go_sem] def bE (s_:List Deed)(k_0:Nat)(s_0:Unit):Int⊕Unit:=(bif(cF (s_.getD k_0 default))then .inl (k_0:Int)else .inr ())
def cy (s_:List Deed):Int:=(match aq (bE s_) s_.length 0 ()with| .inl x_0_0=>x_0_0| .inr s_0=>(-1))
@[go_sem] def c_:List SV->Option Con:=(pR .deed fun s_=>(pFn 42 (pE ((pE (.det True (.v (.int .i64 (cy s_)))))))))
theorem d5:FnOk Tryz.prog 65 c_:=by
 have hG:ConsOk Tryz.prog (mkG [(42,fun l=>kW (dJ [.st .deed] l))] []):=aV (cgc (oh.norm [.st .deed]) cg0) cg0;refine cj [.o] mixed aC hG (fn:=Tryz.f65) (c:=ag Tryz.f65) kr kr kr kr (gn fun s_=>(pO (bw ((bw (fun hp=>?_))))));dsimp only[bb]at hp;refine⟨nbl rfl,(fun id st=>bif Nat.beq id 0 then some (LCR (ρ:=Int) (σ:=Unit) 0 [] [] (fun k_0 s_0=>⟨[(0,.rs .deed s_),(1,.fn 42 [] []),(7,.v (.int .i64 (s_.length:Int))),(8,.v (.int .i64 (k_0:Int)))],[]⟩) (bE s_) pT s_.length () (s_.length<=bR) (fun _=>.ret) (fun x_0_0=>⟨[(4,.v (.int .i64 x_0_0))],[]⟩) st)else none),?_,?_⟩
 ·unfold ag Tryz.f65;simp only[ap,true_and,and_true]
  ·refine ew mixed aC hG kr (fun _=>rfl) (s_.length:Int) rfl mT (fun hb0 k_0 s_0 hlt0 _ hw hc=>⟨L0,ak _,?_⟩) (fun hb0 s_0 hc=>?_)
   ·exact dH (jl [])
   ·exact dI (jl [])
 ·unfold ag Tryz.f65;try unfold cy
  exact zq1
@[go_sem] noncomputable def cW:List SV->Option Con:=fun l=>(c_ l)
theorem gw:FnOk Tryz.prog 65 cW:=d5
def aM (s_:List Deed):Bool:=(decide ((cy s_)>=0))
@[go_sem] def dN:List SV->Option Con:=(pR .deed fun s_=>(pFn 42 (pE ((pE (.det True (.v (.bool (aM s_)))))))))
theorem zq32 {p:Prop}(h:p:=by simp only[go_sem,Nat.reduceBEq,Nat.reduceLeDiff,Nat.reduceLT,decide_true,Nat.reduceAdd,Nat.reduceSub,Nat.reduceMul,Int.reduceLE,Int.reduceLT,Int.reduceToNat,Int.reduceNeg,reduceCtorEq,cW];all_goals exact cl):p:=h
theorem fZ:FnOk Tryz.prog 41 dN:=by
 have hG:ConsOk Tryz.prog (mkG [(65,fun l=>cW (dJ [.sl .deed,.o] l))] []):=aV (cgc (gw.norm [.sl .deed,.o]) cg0) cg0;refine cj [.o] mixed aC hG (fn:=Tryz.f41) (c:=ag Tryz.f41) kr kr kr kr (gn fun s_=>(pO (bw ((bw (fun hp=>?_))))));dsimp only[bb]at hp;refine⟨nbl rfl,L0,ak _,?_⟩
 ·unfold ag Tryz.f41;try unfold aM
  exact zq32
@[go_sem] def dy (d:District)(l_:List Deed)(k_0:Nat)(s_0:List (Int×Deed)):Unit⊕(List (Int×Deed)):=letI q0:=l_.getD k_0 default;(bif(((decide ((k_0:Int) > 0))&&(decide (q0.no<=(l_.getD (Int.toNat (i64.wrap ((k_0:Int) - 1))) default).no))) ||(!(cp d s_0 q0)))then .inl ()else .inr (fe .int .deed s_0 (q0.no) q0))
def gX (d:District)(l_:List Deed)(k_0:Nat)(s_0:List (Int×Deed)):Prop:=letI q0:=i64.wrap ((k_0:Int) - 1);letI q1:=decide ((k_0:Int) > 0);letI q2:=l_.getD k_0 default;((q1=true->(0<=q0/\q0< (l_.length:Int)))/\((q1&&(decide (q2.no<=(l_.getD (Int.toNat q0) default).no)))=false->(ip d s_0 q2)))
def ah (d:District)(l_:List Deed):Int:=(bif((bY d) !=0)then(bY d)else(bif((decide ((l_.length:Int) > 512)) ||(aM l_))then 2 else(match aq (dy d l_) l_.length 0 ([])with| .inl x_0_0=>250| .inr s_0=>0)))
def cX (d:District)(l_:List Deed):Prop:=(((bY d) !=0)=false->(l_.length<=bR->(((decide ((l_.length:Int) > 512)) ||(aM l_))=false->(l_.length<=bR->okI (dy d l_) (gX d l_) l_.length 0 ([])))))
@[go_sem] def ei:List SV->Option Con:=(pD .district fun d=>(pR .deed fun l_=>(pE (.det (cX d l_) (.v (.int .i64 (ah d l_)))))))
theorem eX:FnOk Tryz.prog 15 ei:=by
 have hG:ConsOk Tryz.prog (mkG [(24,fun l=>nE (dJ [.st .district] l)),(41,fun l=>dN (dJ [.sl .deed,.o] l)),(43,fun l=>mR (dJ [.st .district,.mp .int .deed,.st .deed] l))] []):=aV (cgc (rV.norm [.st .district]) (cgc (fZ.norm [.sl .deed,.o]) (cgc (qV.norm [.st .district,.mp .int .deed,.st .deed]) cg0))) cg0;refine cj [.o] mixed aC hG (fn:=Tryz.f15) (c:=ag Tryz.f15) kr kr kr kr (cq fun d=>(gn fun l_=>(bw (fun hp=>?_))));dsimp only[bb]at hp;unfold cX at hp;refine⟨nbl rfl,(fun id st=>bif Nat.beq id 0 then some (LCR (ρ:=Unit) (σ:=(List (Int×Deed))) 2 [] [0,1] (fun k_0 s_0=>⟨[(1,.rs .deed l_),(2,.ptr 0 0),(5,.os 1),(21,.rs .deed l_),(22,.v (.int .i64 (l_.length:Int))),(23,.v (.int .i64 (k_0:Int)))],[.cells (cellsOf .district d),.mp .int .deed s_0 none]⟩) (dy d l_) (gX d l_) l_.length ([]) (l_.length<=bR) (fun _=>.ret) (fun x_0_0=>⟨[(4,.v (.int .i64 250))],[.dead,.dead]⟩) st)else none),?_,?_⟩
 ·unfold ag Tryz.f15;simp only[ap,true_and,and_true]
  ·refine ew mixed aC hG kr (fun _=>rfl) (l_.length:Int) rfl mT (fun hb0 k_0 s_0 hlt0 hq0 hw hc=>⟨L0,ak _,?_⟩) (fun hb0 s_0 hc=>?_)
   ·unfold gX at hq0;try simp only[hw,Int.toNat_natCast]at hq0
    exact dH (jl [0,1])
   ·exact dI (jl [0,1])
 ·unfold ag Tryz.f15;try unfold ah
  exact zq1
end Go.Sx
end
section
namespace Go.Sx
open Go.RowKit
def pXM {α:Type 1}(t t2:Tag)(k:List (t.T×t2.T)->List SV->Option α):List SV->Option α
 | .ep [s] 0::r=>pM t t2 k (s::r)
 |_=>none
@[go_sem] theorem OJ {α:Type 1}{t t2:Tag}{k:List (t.T×t2.T)->List SV->Option α}{s:SV}{r:List SV}:pXM t t2 k (.ep [s] 0::r)=pM t t2 k (s::r):=(rfl)
theorem Bn {α:Type 1}{G:List SV->α->Prop}{t t2:Tag}{k:List (t.T×t2.T)->List SV->Option α}(h:∀ n l c,k n l=some c->G (.ep [.rm t t2 n] 0::l) c):∀ l c,pXM t t2 k l=some c->G l c:=fun l c hc=>by
 unfold pXM at hc;split at hc
 ·obtain⟨x,r,e,h1⟩:=D5 hc;simp only[List.cons.injEq]at e;obtain⟨rfl,rfl⟩:=e;exact h x _ c h1
 ·cases hc
section
universe u
variable {α:Type u}{G:List SV->α->Prop}
def pLS (k:List SV->Option (List SV->Option α)):List SV->Option α
 | .ls l::r=>apO (k l) r
 |_=>none
@[go_sem] theorem Ri {k:List SV->Option (List SV->Option α)}{l r:List SV}:pLS k (.ls l::r)=apO (k l) r:=(rfl)
end
open Classical in
noncomputable def fq {τ:Type}(A:τ->List SV)(H:τ->List Ob)(K:τ->HCon):List SV->List Ob->Option HCon:=fun l h=>if e:∃ x,l=A x/\h=H x then some (K e.choose)else none
theorem EC (x:Deed):(⟨x.no,x.kind,x.right,x.since,x.to,x.parts,x.of_,x.at_,x.known⟩:Deed)=x:=rfl
theorem wW (d:District):(⟨d.name,d.hours,⟨d.tank.cap,d.tank.start⟩,d.reaches,d.farms,d.crops,d.rights,d.duties,d.wells⟩:District)=d:=rfl
theorem Cw {k:Tag}{x y:k.T}:cellsOf k x=cellsOf k y↔x=y:=⟨fun h=>by
 have h1:=nO x;rw[h,nO y]at h1;exact(Option.some.inj h1).symm,fun h=>by rw[h]⟩
theorem dM {τ:Type}{A:τ->List SV}{H:τ->List Ob}{K:τ->HCon}{x:τ}(inj:∀ x y,A x=A y->H x=H y->x=y:=by
 intro x y h1 h2;simp only[List.cons.injEq,SV.agg.injEq,SV.ep.injEq,SV.v.injEq,Value.int.injEq,Value.bool.injEq,Value.string.injEq,SV.fn.injEq,SV.rs.injEq,SV.rm.injEq,Ob.row.injEq,Ob.mp.injEq,Ob.cells.injEq,Ob.grid.injEq,heq_eq_eq,Cw,true_and,and_true]at h1 h2;first|exact h2|exact h1|(simp_all [Prod.ext_iff];done)):fq A H K (A x) (H x)=some (K x):=by
 have e:∃ y,A x=A y/\H x=H y:=⟨x,rfl,rfl⟩;unfold fq;rw[dif_pos e];have:=inj _ _ e.choose_spec.1 e.choose_spec.2;rw[<-this]
theorem cG {τ:Type}{A:τ->List SV}{H:τ->List Ob}{K:τ->HCon}{l:List SV}{h:List Ob}{c:HCon}(hh:fq A H K l h=some c):∃ x,l=A x/\h=H x/\c=K x:=by
 unfold fq at hh;split at hh
 ·rename_i e;simp only[Option.some.injEq]at hh;exact⟨e.choose,e.choose_spec.1,e.choose_spec.2,hh.symm⟩
 ·cases hh
def Cy (k:Tag)(i:Nat)(t:List (Nat×SV))(h:List Ob):SV->St
 | .v (.slice none 0 0) =>⟨(i,.os h.length)::t,h++[.row k []]⟩
 |_=>⟨t,h⟩
def ED (k:Tag)(id off:Nat)(t:List (Nat×SV))(h:List Ob)(l:List SV):Option SV->St
 |some (.v (.slice none 0 0)) =>⟨t,bf h id (.cells (l.set off (.os h.length)))++[.row k []]⟩
 |_=>⟨t,h⟩
def HA (k:Tag)(id off:Nat)(t:List (Nat×SV))(h:List Ob):Ob->St
 | .cells l=>ED k id off t h l (nth l off)
 |_=>⟨t,h⟩
def EE (k:Tag)(t:List (Nat×SV))(h:List Ob):SV->St
 | .ptr id off=>HA k id off t h (ae h id)
 |_=>⟨t,h⟩
def yz (k:Tag):ResultVar->List (Nat×SV)->List Ob->St
 | .tmp i,t,h=>Cy k i t h (lk i t)
 | .cell i _,t,h=>EE k t h (lk i t)
def tW:List (ResultVar×Tag)->St->St
 | [],st=>st
 |x::r,st=>tW r (yz x.2 x.1 st.t st.h)
theorem HB (k:Tag)(r:ResultVar)(st:St):NilS st (yz k r st.t st.h):=by
 obtain⟨t,h⟩:=st;cases r with
 |tmp i=>
  show NilS _ (Cy k i t h (lk i t));unfold Cy;split
  ·rename_i e;exact .slot _ (.refl _) e (.inl ⟨_,rfl⟩)
  ·exact .refl _
 |cell i _=>
  show NilS _ (EE k t h (lk i t));unfold EE;split
  ·unfold HA;split
   ·rename_i e;unfold ED;split
    ·rename_i e2;exact .cell _ (.refl _) e (by rw[<-dx];exact e2) (.inl ⟨_,rfl⟩)
    ·exact .refl _
   ·exact .refl _
  ·exact .refl _
theorem NilS.trans {a b c:St}(h1:NilS a b)(h2:NilS b c):NilS a c:=by
 induction h2 with
 |refl=>exact h1
 |cell o _ e1 e2 ho ih=>exact .cell o ih e1 e2 ho
 |slot o _ e1 ho ih=>exact .slot o ih e1 ho
 |slotE k _ e1 ih=>exact .slotE k ih e1
theorem Kv (l:List (ResultVar×Tag)):∀ st,NilS st (tW l st):=by
 induction l with
 |nil=>exact fun st=>.refl _
 |cons x r ih=>exact fun st=>(HB x.2 x.1 st).trans (ih _)
def Bo (l:List (ResultVar×Tag))(rs:List ResultVar)(ts:Tis)(post:SV->Prop)(pp:Value->Prop):Ex->St->Prop
 | .exit _,_=>False
 | .normal,st=>c9 post (oN true rs ts (tW l st))
 | .ret,st=>c9 post (oN true rs ts (tW l st))
 | .pan x,_=>pp x
section
variable {l:List (ResultVar×Tag)}{rs:List ResultVar}{ts:Tis}{post:SV->Prop}{pp:Value->Prop}{st:St}{k:Tag}{i id off:Nat}{t:List (Nat×SV)}{h:List Ob}{m:List SV}
@[go_sem] theorem MN:Bo l rs ts post pp .ret st=c9 post (oN true rs ts (tW l st)):=(rfl)
@[go_sem] theorem HC:Bo l rs ts post pp .normal st=c9 post (oN true rs ts (tW l st)):=(rfl)
@[go_sem] theorem MO {x:Value}:Bo l rs ts post pp (.pan x) st=pp x:=(rfl)
@[go_sem] theorem OK:tW [] st=st:=(rfl)
@[go_sem] theorem MP {r:ResultVar}:tW ((r,k)::l) ⟨t,h⟩=tW l (yz k r t h):=(rfl)
@[go_sem] theorem MQ:yz k (.tmp i) t h=Cy k i t h (lk i t):=(rfl)
@[go_sem] theorem Kw {ty:TypeId}:yz k (.cell i ty) t h=EE k t h (lk i t):=(rfl)
@[go_sem] theorem OL:Cy k i t h (.v (.slice none 0 0))=⟨(i,.os h.length)::t,h++[.row k []]⟩:=(rfl)
@[go_sem] theorem Qw:Cy k i t h (.os id)=⟨t,h⟩:=(rfl)
@[go_sem] theorem OM:EE k t h (.ptr id off)=HA k id off t h (ae h id):=(rfl)
@[go_sem] theorem Kx:HA k id off t h (.cells m)=ED k id off t h m (nth m off):=(rfl)
@[go_sem] theorem ON:ED k id off t h m (some (.v (.slice none 0 0)))=⟨t,bf h id (.cells (m.set off (.os h.length)))++[.row k []]⟩:=(rfl)
@[go_sem] theorem Qy:ED k id off t h m (some (.os i))=⟨t,h⟩:=(rfl)
attribute [go_sem] List.set_cons_zero
end
section
variable {P:Program}{ts:Tis}{G:Cons}
theorem qW (l:List (ResultVar×Tag)) (hm:P.follows .mixedOrders=true) (hts:ts.ok P) (hG:ConsOk P G) {f:FuncId} {fn:Func} {c:Code} (hf:P.funcs[f]? =some fn) (hb:fn.body=some c) (hname:(fn.name== "runtime.NumGoroutine")=false)
  (hc:ca fn.ntmps c=true) {C:List SV->Option Con}
  (h:∀ l0 con,C l0=some con->bb con->l0.length<=fn.ntmps/\∃ L,ap P none fn.ntmps L c/\exec ts G L c ⟨iJ 0 l0,[]⟩ (Bo l fn.results.toList ts (cH con) (iu con))):FnOk P f C:=by
 refine⟨fun l con _ args w=>?_,fun l0 con hcon hpre F w vs hF hvs=>?_⟩
 ·have hn:¬fn.name= "runtime.NumGoroutine":=by simpa using hname
  simp[callFunc,hf,hn,hb]
 ·obtain⟨hlen,L,hl,hx⟩:=h l0 con hcon hpre;refine kQ (n:=0) (callsIn_of_wp_marks hf hb trivial ?_);have hr:StRel F { w:=w,own:=bX} fn.ntmps bX ⟨iJ 0 l0,[]⟩ { tmps:=vs++Array.replicate (fn.ntmps - vs.size) undef,defers:=[]} w:=
   ⟨by have:=hvs.1;simp;omega,Dfr.nil,pK hF,Fr.refl _,fun t=>jQ hvs _ t⟩
  refine wpIn_mono (kp hm hts hG c hc hl F _ _ hx bX _ w hr) ?_;intro e a' w' hq;have key:∀ F1 own st,(∀ b,F b->F1 b)->StRel F1 { w:=w,own:=bX} fn.ntmps own st a' w'->c9 (cH con) (oN true fn.results.toList ts (tW l st))->LeavesInM (rd none) 0 P fn a'.tmps
    (fun e w'=>(∃ s u own',cH con s/\e=.returned u/\Handed F w own' w' s u/\Below w.heap.size w w')\/(∃ x,iu con x/\e=.panicked [{ v:=x,recovered:=false}]/\Below w.heap.size w w')) a'.defers .returning w':=by
   intro F1 own0' st0 hF1 hst0 hdone;obtain⟨own,hst⟩:=(Kv l st0).rel hst0;generalize tW l st0=st at hst hdone;refine ia hst (by simp) fun w2 hst2=>?_;have hst3:=hst2.less hF1 rfl;unfold oN at hdone;cases hs:jh (ir ts st fn.results.toList)with
   |none=>
    simp only[cond_true,BP]at hdone;rw[hs]at hdone;exact hdone.elim
   |some s=>
    obtain⟨u,e1,e2⟩:=pJ (P:=P) hts hst3 hs;refine⟨u,e1,.inl ?_⟩;simp only[cond_true,BP]at hdone;rw[hs]at hdone;change c9 (cH con) (rj st.h s)at hdone;cases hg:rj st.h s with
    |none=>rw[hg]at hdone;exact hdone.elim
    |some s2=>
     rw[hg]at hdone;obtain⟨own',hh⟩:=A7 hst3 e2 hg;exact⟨_,u,own',hdone,rfl,hh,jP hst3.fr⟩
  cases e with
  |normal=>obtain⟨F1,own,st,h0,h1,h2⟩:=hq;exact key F1 own st h0 h1 h2
  |ret=>obtain⟨F1,own,st,h0,h1,h2⟩:=hq;exact key F1 own st h0 h1 h2
  |exit id=>obtain⟨F1,own,st,h0,h1,h2⟩:=hq;exact h2.elim
  |panic ch=>
   obtain⟨x,F1,own,st,h0,h1,h2,rfl⟩:=hq;exact ia h1 (by simp) fun w2 hst2=>.inr ⟨x,h2,rfl,jP hst2.fr⟩
  |_=>exact hq.elim
end
end Go.Sx
end
section
namespace Go.Sx
open Go.Proofs
open IntKind (i64 u64)
theorem jT {l0 l1:List Nat}(a0:JL l0)(a1:JL l1){p:Prop}(h:JL l0->JL l1->p:=by intro ja jb;(first|done|(repeat' (first|with_reducible refine And.intro ?_ ?_|((with_reducible show _≠_);first|assumption|omega|(simp_all [d7,eJ];done) |grind) |with_reducible intro _)) <;>(first|done|with_reducible exact Empty.elim ‹Empty› |with_reducible assumption|rfl|omega|assumption|decide|exact fk ja|exact fk jb|exact czl|(simp only[*,cond_true,cond_false,Bool.not_true,Bool.not_false,go_sem,Nat.reduceBEq,Nat.reduceLeDiff,Nat.reduceLT,decide_true,Nat.reduceAdd,Nat.reduceSub,Nat.reduceMul,Int.reduceLE,Int.reduceLT,Int.reduceToNat,Int.reduceNeg,reduceCtorEq];(repeat' (first|with_reducible refine And.intro ?_ ?_|((with_reducible show _≠_);first|assumption|omega|(simp_all [d7,eJ];done) |grind) |with_reducible intro _)) <;>(first|done|assumption|rfl|omega|decide|exact fk ja|exact fk jb|(simp_all [d7,eJ];done))) |(simp_all [okI,d7,eJ];done) |(simp_all [d7,eJ];(first|done|exact fk2 ja|exact fk2 jb)) |exact fk2 ja|exact fk2 jb))):p:=h a0 a1
theorem cI {l0:List Nat}(a0:JL l0){p:Prop}(h:JL l0->p:=by intro ja;simp only[go_sem,Nat.reduceBEq,Nat.reduceLeDiff,Nat.reduceLT,decide_true,Nat.reduceAdd,Nat.reduceSub,Nat.reduceMul,Int.reduceLE,Int.reduceLT,Int.reduceToNat,Int.reduceNeg,reduceCtorEq];all_goals exact tO ja):p:=h a0
@[go_sem] def gY:List SV->Option Con:=pR .deed fun l=>pE (.det (l.length*88<=fY) (.nw .deed l))
theorem jU:FnOk Tryz.prog 40 gY:=by
 have hG:ConsOk Tryz.prog (mkG [] []):=aV cg0 cg0;refine qW [(.tmp 2,.deed)] mixed aC hG (fn:=Tryz.f40) (c:=ag Tryz.f40) kr kr kr kr (gn fun l=>bw fun hp=>?_);dsimp only[bb]at hp;refine⟨nbl rfl,L0,ak _,?_⟩;unfold ag Tryz.f40;simp only[go_sem,Nat.reduceBEq,Nat.reduceLeDiff,Nat.reduceAdd,Nat.reduceSub,Nat.reduceMul,Int.reduceLE,Int.reduceLT,Int.reduceToNat,Int.reduceNeg,reduceCtorEq];intro b hb;refine⟨fun h=>?_,fun _=>⟨hp,fun _=>rfl⟩⟩;have hl:=hb h;subst hl;rfl
def dS (z:Deed)(no:Int):Int:=(cU z.no no)
@[go_sem] def l5:List SV->Option Con:=(pD .deed fun z=>(pI fun no=>(pE (.det True (.v (.int .i64 (dS z no)))))))
theorem p9:FnOk Tryz.prog 37 l5:=by
 have hG:ConsOk Tryz.prog (mkG [(38,eT)] []):=aV (cgc fM cg0) cg0;refine cj [.o] mixed aC hG (fn:=Tryz.f37) (c:=ag Tryz.f37) kr kr kr kr (cq fun z=>(d_ fun no=>(bw (fun hp=>?_))));dsimp only[bb]at hp;refine⟨nbl rfl,L0,ak _,?_⟩
 ·unfold ag Tryz.f37;try unfold dS
  exact zq1
@[go_sem] def ar (x:List Deed)(target:Int)(k_0:Nat)(s_0:Int×Int):Int⊕(Int×Int):=letI q0:=i64.wrap (gD .u64 (u64.wrap (i64.wrap (s_0.1+s_0.2))) 1);(bif(decide (s_0.1<s_0.2))then(bif(decide ((dS (x.getD (Int.toNat q0) default) target) <0))then .inr ((i64.wrap (q0+1)),s_0.2)else .inr (s_0.1,q0))else .inl s_0.1)
def az (x:List Deed)(target:Int)(k_0:Nat)(s_0:Int×Int):Prop:=((decide (s_0.1<s_0.2))=true->(0<=(i64.wrap (gD .u64 (u64.wrap (i64.wrap (s_0.1+s_0.2))) 1))/\(i64.wrap (gD .u64 (u64.wrap (i64.wrap (s_0.1+s_0.2))) 1)) < (x.length:Int)))
def aj (x:List Deed)(target:Int):Int×Bool:=(match aq (ar x target) (x.length+1) 0 (0,(x.length:Int))with| .inl x_0_0=>(x_0_0,((decide (x_0_0< (x.length:Int)))&&((dS (x.getD (Int.toNat x_0_0) default) target) ==0))) | .inr s_0=>default)
def bq (x:List Deed)(target:Int):Prop:=letI q0:=ar x target;letI q1:=(x.length:Int);letI q2:=x.length+1;(x.length<=bR->(okI q0 (az x target) q2 0 (0,q1)/\(∀ z_,aq q0 q2 0 (0,q1)≠ .inr z_)/\(∀ x_0_0,aq q0 q2 0 (0,q1)=.inl x_0_0->((decide (x_0_0<q1))=true->(0<=x_0_0/\x_0_0<q1)))))
@[go_sem] def db:List SV->Option Con:=(pR .deed fun x=>(pI fun target=>(pFn 37 (pE ((pE (.det (bq x target) (.tup [.v (.int .i64 ((aj x target).1)),.v (.bool ((aj x target).2))]))))))))
theorem eL:FnOk Tryz.prog 36 db:=by
 have hG:ConsOk Tryz.prog (mkG [(37,fun l=>l5 (dJ [.st .deed,.o] l))] []):=aV (cgc (p9.norm [.st .deed,.o]) cg0) cg0;refine cj [.o,.o] mixed aC hG (fn:=Tryz.f36) (c:=ag Tryz.f36) kr kr kr kr (gn fun x=>(d_ fun target=>(pO (bw ((bw (fun hp=>?_)))))));dsimp only[bb]at hp;unfold bq at hp;refine⟨nbl rfl,(fun id st=>bif Nat.beq id 0 then some (LCV (ρ:=Int) (σ:=(Int×Int)) 0 [] [] (fun k_0 s_0=>⟨[(0,.rs .deed x),(1,.v (.int .i64 target)),(2,.fn 37 [] []),(8,.v (.int .i64 (x.length:Int))),(9,.v (.int .i64 s_0.1)),(10,.v (.int .i64 s_0.2))],[]⟩) (ar x target) (az x target) (x.length+1) (0,(x.length:Int)) (fun _=>.normal) (fun x_0_0=>⟨[(0,.rs .deed x),(1,.v (.int .i64 target)),(2,.fn 37 [] []),(8,.v (.int .i64 (x.length:Int))),(9,.v (.int .i64 x_0_0))],[]⟩) st)else none),?_,?_⟩
 ·unfold ag Tryz.f36;simp only[ap,true_and,and_true]
  ·refine eS mixed aC hG kr (fun _=>rfl) fun k_0 s_0 hq0=>⟨L0,ak _,?_⟩
   ·unfold az at hq0;exact cI (jl [])
 ·unfold ag Tryz.f36;try unfold aj
  exact zq1
def bM (l_:List Deed)(v_:List Deed):List Deed:=(bif((v_.length:Int) ==0)then l_ else(l_++v_))
def cD (l_:List Deed)(v_:List Deed):Prop:=((0<=(l_.length:Int)/\(l_.length:Int)<=(l_.length:Int))/\(v_.length<=bR->(((v_.length:Int) ==0)=false->(l_.length<=bR->((l_++v_).length*88<=fY)))))
noncomputable def eK:List SV->List Ob->Option HCon:=fq (fun x_:Int×(List Deed)×(List Deed) =>[.os 0,.v (.int .i64 x_.1),.os 1]) (fun x_=>[.row .deed x_.2.1,.row .deed x_.2.2]) (fun x_=>dK (x_.1=(x_.2.1.length:Int)/\(cD x_.2.1 x_.2.2)) (.os 2) [.dead,.row .deed x_.2.2,.row .deed (bM x_.2.1 x_.2.2)])
@[go_sem] theorem d9 (i:Int)(l_:List Deed)(v_:List Deed):eK ([.os 0,.v (.int .i64 i),.os 1]) ([.row .deed l_,.row .deed v_])=some (dK (i=(l_.length:Int)/\(cD l_ v_)) (.os 2) [.dead,.row .deed v_,.row .deed (bM l_ v_)]):=dM (A:=fun x_:Int×(List Deed)×(List Deed) =>[.os 0,.v (.int .i64 x_.1),.os 1]) (H:=fun x_=>[.row .deed x_.2.1,.row .deed x_.2.2]) (K:=fun x_=>dK (x_.1=(x_.2.1.length:Int)/\(cD x_.2.1 x_.2.2)) (.os 2) [.dead,.row .deed x_.2.2,.row .deed (bM x_.2.1 x_.2.2)]) (x:=(i,l_,v_))
theorem zq36 {l0 l1:List Nat}(a0:JL l0)(a1:JL l1){p:Prop}(h:JL l0->JL l1->p:=by intro ja jb;simp only[go_sem,Nat.reduceBEq,Nat.reduceLeDiff,Nat.reduceLT,decide_true,Nat.reduceAdd,Nat.reduceSub,Nat.reduceMul,Int.reduceLE,Int.reduceLT,Int.reduceToNat,Int.reduceNeg,reduceCtorEq,beq_self_eq_true];all_goals exact jT ja jb):p:=h a0 a1
theorem ez:FnOkO Tryz.prog 39 (eK):=by
 have hG:ConsOk Tryz.prog (mkG [] []):=aV cg0 cg0;refine fo mixed aC hG (fn:=Tryz.f39) (c:=ag Tryz.f39) kr kr kr kr fun l o con h=>?_;obtain⟨⟨i,l_,v_⟩,rfl,rfl,rfl⟩:=cG h;clear h;try dsimp only
 refine⟨_,_,_,rfl,fun hp=>?_⟩;obtain⟨rfl,hp⟩:=hp;unfold cD at hp;refine⟨nbl rfl,L0,?_,?_⟩
 ·unfold ag Tryz.f39;simp only[ap,and_self,true_and,and_true]
 ·unfold ag Tryz.f39;try unfold bM
  exact zq36 (jl [0,1,0]) (jl [0,1,2])
end Go.Sx
end
section
namespace Go.Sx
open Go.Lib Go.Proofs Go.RowKit Go.Shelf
def nF (i:Int)(l v:List Deed):List Deed:=l.take i.toNat++(v++l.drop i.toNat)
def oZ (i:Int)(l v:List Deed):Prop:=(0<=i/\i<=(l.length:Int))/\v≠[]/\(l.length+v.length)*88<=fY
noncomputable def Af:List SV->List Ob->Option HCon:=fq (fun x_:Int×(List Deed)×(List Deed) =>[.os 0,.v (.int .i64 x_.1),.os 1]) (fun x_=>[.row .deed x_.2.1,.row .deed x_.2.2]) (fun x_=>dK (oZ x_.1 x_.2.1 x_.2.2) (.os 2) [.dead,.dead,.row .deed (nF x_.1 x_.2.1 x_.2.2)])
@[go_sem] theorem MR (i:Int)(l_:List Deed)(v_:List Deed):Af ([.os 0,.v (.int .i64 i),.os 1]) ([.row .deed l_,.row .deed v_])=some (dK (oZ i l_ v_) (.os 2) [.dead,.dead,.row .deed (nF i l_ v_)]):=dM (A:=fun x_:Int×(List Deed)×(List Deed) =>[.os 0,.v (.int .i64 x_.1),.os 1]) (H:=fun x_=>[.row .deed x_.2.1,.row .deed x_.2.2]) (K:=fun x_=>dK (oZ x_.1 x_.2.1 x_.2.2) (.os 2) [.dead,.dead,.row .deed (nF x_.1 x_.2.1 x_.2.2)]) (x:=(i,l_,v_))
section
variable {F:Nat->Prop}{own:Own}{w:World}
theorem vC {l:List Deed}{o cap:Nat}{cs:Array Value}(h5:o+cap*9<=cs.size)(h6:l.length<=cap)(h:RowAt F own w .deed l o cs):
  ∃ L:List Value,L.length=l.length*9/\(∀ j,j<l.length*9->L[j]? =cs[o+j]?)/\∀ v∈L,v.oneCell'=true:=by
 have hle:l.length*9<=cap*9:=Nat.mul_le_mul_right _ h6;have hL:((cs.toList.drop o).take (l.length*9)).length=l.length*9:=by rw[List.length_take,List.length_drop];have:cs.toList.length=cs.size:=rfl;omega
 have hg:∀ j,j<l.length*9->((cs.toList.drop o).take (l.length*9))[j]? =cs[o+j]?:=fun j hj=>by
  rw[List.getElem?_take,if_pos hj,List.getElem?_drop,Array.getElem?_toList]
 refine⟨_,hL,hg,fun v hv=>?_⟩;obtain⟨j,hj,e⟩:=List.getElem_of_mem hv;rw[hL]at hj;have e1:=hg j hj;rw[List.getElem?_eq_getElem (by rw[hL];exact hj),e]at e1;have hq:j / 9<l.length:=by omega
 have hx:l[j / 9]? =some l[j / 9]:=List.getElem?_eq_getElem hq;have hlen:(cellsOf .deed l[j / 9]).length=9:=rfl;have hs:(cellsOf .deed l[j / 9])[j % 9]? =some ((cellsOf .deed l[j / 9])[j % 9]'(by rw[hlen];omega)):=List.getElem?_eq_getElem _;obtain⟨u,q1,q2⟩:=h _ _ hx _ _ hs;have e9:aa .deed=9:=rfl;rw[e9,show o+j / 9*9+j % 9=o+j by omega,<-e1]at q1;cases q1;exact fK (r6 hs q2)
theorem kw {b:Nat}{ty:TypeId}(vs:List Value)(o:Nat)(w:World){cs:Array Value}(hb:w.heap[b]? =some (.cells cs ty (0,0)))(hle:o+vs.length<=cs.size)(h1:∀ v∈vs,v.oneCell'=true):
  ∃ cs',Puts b ty cs' w (w.setCells b o vs)/\cs'.size=cs.size/\∀ j,cs'[j]? =if o<=j/\j<o+vs.length then vs[j - o]? else cs[j]?:=by
 obtain⟨cs',w',q1,q2,q3,q4⟩:=eu (P:=Tryz.prog) (b:=b) (o:=o) (ty:=ty) vs 0 w cs hb (by simpa using hle) h1;have:=Go.run_storeCells_cells (P:=Tryz.prog) b o vs 0 w (fun j hj=>by rw[bP hb,Array.getElem?_eq_getElem (by omega)];rfl) (fun j hj=>gk hb _) h1;rw[q1]at this;simp only[Nat.add_zero,Result.ok.injEq,true_and]at this;subst this;exact⟨cs',q2,q3,by simpa using q4⟩
theorem EF {i:Nat}{l v:List Deed}(hi:i<=l.length):(nF i l v).length=l.length+v.length:=by
 simp[nF];omega
theorem EG {i:Nat}{l v:List Deed}(hi:i<=l.length)(p:Nat):(nF i l v)[p]? =if p<i then l[p]? else if p<i+v.length then v[p - i]? else l[p - v.length]?:=by
 unfold nF;rw[Int.toNat_natCast,List.getElem?_append,List.length_take,Nat.min_eq_left hi];split
 ·rename_i h;rw[List.getElem?_take,if_pos h]
 ·rw[List.getElem?_append];by_cases h2:p<i+v.length
  ·rw[if_pos (by omega),if_pos h2]
  ·rw[if_neg (by omega),if_neg h2,List.getElem?_drop];congr 1;omega
theorem yA {own':Own}{w':World}{i:Nat}{l v:List Deed}(hi:i<=l.length){o o1 o':Nat}{cs cs1 cs':Array Value}(g:Goes F own w own' w')(h:RowAt F own w .deed l o cs)(h1:RowAt F own w .deed v o1 cs1)
  (c1:∀ j,j<i*9->cs'[o'+j]? =cs[o+j]?) (c2:∀ j,j<v.length*9->cs'[o'+(i*9+j)]? =cs1[o1+j]?) (c3:∀ j,j< (l.length - i)*9->cs'[o'+((i+v.length)*9+j)]? =cs[o+(i*9+j)]?):
  RowAt F own' w' .deed (nF i l v) o' cs':=by
 intro p x hx j s hs;have e9:aa .deed=9:=rfl;have hj:j<9:=by
  have:(cellsOf .deed x).length=9:=rfl;rw[<-this];exact(List.getElem?_eq_some_iff.1 hs).1
 rw[e9];rw[EG hi]at hx;split at hx
 ·rename_i hp;obtain⟨u,q1,q2⟩:=h _ _ hx _ _ hs;refine⟨u,?_,q2.mono g⟩;rw[e9]at q1;rw[Nat.add_assoc,c1 _ (by omega),<-Nat.add_assoc];exact q1
 ·rename_i hp;split at hx
  ·rename_i hp2;obtain⟨u,q1,q2⟩:=h1 _ _ hx _ _ hs;refine⟨u,?_,q2.mono g⟩;rw[e9]at q1;have:=c2 ((p - i)*9+j) (by omega);rw[show o'+(i*9+((p - i)*9+j))=o'+p*9+j by omega,<-Nat.add_assoc o1]at this;rw[this];exact q1
  ·rename_i hp2;have hpl:=(List.getElem?_eq_some_iff.1 hx).1;obtain⟨u,q1,q2⟩:=h _ _ hx _ _ hs;refine⟨u,?_,q2.mono g⟩;rw[e9]at q1;have:=c3 ((p - v.length - i)*9+j) (by omega);rw[show o'+((i+v.length)*9+((p - v.length - i)*9+j))=o'+p*9+j by omega,show o+(i*9+((p - v.length - i)*9+j))=o+(p - v.length)*9+j by omega]at this;rw[this];exact q1
theorem HD:FnOkO Tryz.prog 39 Af:=by
 refine⟨fun l h c hc args w=>?_,fun l h c hc hp F own w vs hHp hvs=>?_⟩
 ·obtain⟨⟨i,l,v⟩,rfl,rfl,rfl⟩:=cG hc;exact ez.enter _ _ _ (d9 i l v) args w
 obtain⟨⟨i,l,v⟩,rfl,rfl,rfl⟩:=cG hc;clear hc;obtain⟨⟨hi0,hi1⟩,hv0,hfit⟩:oZ i l v:=hp;obtain⟨k,rfl⟩:=Int.eq_ofNat_of_zero_le hi0;have hvl:0<v.length:=List.length_pos_iff.2 hv0;by_cases hk:k=l.length
 ·subst hk;have:=ez.calls _ _ _ (d9 (l.length:Int) l v) ⟨rfl,⟨by omega,by omega⟩,fun _ _ _=>by rw[List.length_append];exact hfit⟩ F own w vs hHp hvs;refine this.mono fun e w' ⟨r,own',h1,h2⟩ =>⟨r,own',h1,?_⟩;have e1:bM l v=nF (l.length:Int) l v:=by
   unfold bM nF;have:((v.length:Int) ==0)=false:=by simpa using hv0
   rw[this];simp
  rw[e1]at h2;obtain⟨h3,h4,h5,h6⟩:=h2;refine⟨h3,⟨h4.dom,h4.foreign,h4.apart,h4.inj,h4.lt,fun id hid=>?_⟩,h5,h6⟩;match id,hid with
  |0,hid=>cases hid
  |1,hid=>cases hid
  |2,_=>exact h4.obs 2 rfl
  |id+3,hid=>rw[g_ (by simp)]at hid;cases hid
 have hkl:k<l.length:=by omega
 obtain⟨hsz,hrel⟩:=hvs;have r0:=hrel 0 _ rfl;have r1:=hrel 1 _ rfl;have r2:=hrel 2 _ rfl;have hvs2:vs= #[vs.getD 0 undef,vs.getD 1 undef,vs.getD 2 undef]:=by
  apply Array.ext
  ·simpa using hsz
  ·intro i h1 h2;simp only[List.length_cons,List.length_nil]at hsz;match i,h1,h2 with
   |0,h1,_=>simp[Array.getD,h1]
   |1,h1,_=>simp[Array.getD,h1]
   |2,h1,_=>simp[Array.getD,h1]
   |i+3,h1,_=>omega
 generalize vs.getD 0 undef=x0 at r0 hvs2;generalize vs.getD 1 undef=x1 at r1 hvs2;generalize vs.getD 2 undef=x2 at r2 hvs2;subst hvs2;have:=bo r1;subst this;obtain⟨hd,o0,rfl,_⟩:=dQ r0;obtain⟨hd',o0',hrow⟩:=hHp.at (id:=0) (o:=.row .deed l) rfl rfl;rw[o0]at o0';cases o0';obtain⟨hd1,o1,rfl,_⟩:=dQ r2;obtain⟨hd',o1',hrow1⟩:=hHp.at (id:=1) (o:=.row .deed v) rfl rfl;rw[o1]at o1';cases o1';have hrow:RowRel F own w .deed l hd.v hd.bs:=hrow;have hrow1:RowRel F own w .deed v hd1.v hd1.bs:=hrow1;rcases hrow with⟨a,_,rfl,_⟩ | ⟨b,o,cap,cells,ty,e1,e2,e3,e4,e5,e6,e7⟩
 ·exact absurd hkl (by simp)
 rcases hrow1 with⟨a,_,rfl,_⟩ | ⟨b1,oo1,cap1,cells1,ty1,f1,f2,f3,f4,f5,f6,f7⟩
 ·exact absurd rfl hv0
 have e9:aa .deed=9:=rfl;rw[e9]at e4 f4;have hbb:b1≠b:=fun e=>by
  have:=hHp.inj 0 1 hd hd1 b o0 o1 (by rw[e2];simp) (by rw[f2,e];simp);cases this
 have hbw:b<w.heap.size:=hHp.lt 0 hd b o0 (by rw[e2];simp);obtain⟨L,hL,hLg,hL1⟩:=vC e4 e5 e7;obtain⟨V,hV,hVg,hV1⟩:=vC f4 f5 f7;have hcs:∀ j u,L[j]? =some u->w.cell? ⟨b,o+j,none⟩=some u:=fun j u hj=>by
  rw[bP e3,<-hLg j (by rw[<-hL];exact(List.getElem?_eq_some_iff.1 hj).1)];exact hj
 have hvs:∀ j u,V[j]? =some u->w.cell? ⟨b1,oo1+j,none⟩=some u:=fun j u hj=>by
  rw[bP f3,<-hVg j (by rw[<-hV];exact(List.getElem?_eq_some_iff.1 hj).1)];exact hj
 have hmB:fY=140737488355328:=rfl;rw[hmB]at hfit;have hmL:bR=140737488355328:=rfl;have hK:∀ id∈[0,1],∃ hd,own id=some hd:=fun id hm=>by
  simp at hm;rcases hm with rfl|rfl
  ·exact⟨_,o0⟩
  ·exact⟨_,o1⟩
 have hlen:=EF (v:=v) (Nat.le_of_lt hkl);have hn:NxOk own [Ob.row .deed l,.row .deed v] 2:=hHp.nx;have fin:∀ (own':Own) (w':World) (x:Value),Step F own w (aD [Ob.row .deed l,.row .deed v] ([0,1].map (fun id=>(id,Ob.dead))++[(2,.row .deed (nF k l v))])) own' w'->Rel F own' w' (.os 2) x->
   ∃ r own'',(dK (oZ k l v) (.os 2) [.dead,.dead,.row .deed (nF k l v)]).post r/\wB F w own 2 (.returned x) own'' w' ((dK (oZ k l v) (.os 2) [.dead,.dead,.row .deed (nF k l v)]).res r):=fun own' w' x hst hx=>
  ⟨(),own',trivial,⟨_,rfl,hx⟩,hst.hp,hst.fr,by simp⟩
 rw[e1,f1];by_cases hroom:l.length+v.length<=cap
 ·have hdl:(L.drop (k*9)).length=(l.length - k)*9:=by rw[List.length_drop,hL];omega
  have hc9:(l.length+v.length)*9<=cap*9:=Nat.mul_le_mul_right _ hroom;have hsp:∀ j,j< (l.length+v.length)*9->(w.cell? ⟨b,o+j,none⟩).isSome=true:=fun j hj=>by
   rw[bP e3,Array.getElem?_eq_getElem (by omega)];rfl
  refine(insD_shift b o l.length cap k b1 oo1 v.length cap1 L V w hkl hvl hroom (by omega) hbb hL hV hcs hsp (fun j _=>gk e3 _) hvs hL1 hV1 ty1 ty cells1.size cells.size (by simp[World.shape?,f3]) (by simp[World.shape?,e3]) (by omega) (gk f3 _) (gk f3 _)).mono fun e w' he=>?_;obtain⟨rfl,rfl⟩:=he;obtain⟨cs2,p1,p2,p3⟩:=kw (b:=b) (ty:=ty) (L.drop (k*9)) (o+(k+v.length)*9) w.drew e3 (by rw[hdl];omega) (fun u hu=>hL1 u (List.mem_of_mem_drop hu));obtain⟨cs3,p4,p5,p6⟩:=kw (b:=b) (ty:=ty) V (o+k*9) _ p1.here (by rw[p2,hV];omega) hV1;have hput:∀ c,c≠b->((w.drew.setCells b (o+(k+v.length)*9) (L.drop (k*9))).setCells b (o+k*9) V).heap[c]? =w.heap[c]?:=fun c hc=>(p4.other c hc).trans (p1.other c hc);have hsize:=p4.size.trans p1.size;refine fin (own.move [0,1] 2 ⟨none,.slice (some ⟨b,o,none⟩) (l.length+v.length) cap,[],[b]⟩) _ _ (eM hHp hn [0,1] hK _ _ (fun c hc=>?_) (fun c _ hc=>hput c fun e=>hc ⟨0,by simp,hd,o0,by rw[e2,e];simp⟩) (by rw[hsize];exact Nat.le_refl _) (p4.os.trans p1.os) (p4.tape.trans p1.tape) (p4.output.trans p1.output) fun own' g=>?_) ?_
  ·simp at hc;subst hc;exact .inl ⟨0,by simp,hd,o0,by rw[e2];simp⟩
  ·refine .inr ⟨b,o,cap,cs3,ty,by rw[hlen],rfl,p4.here,by rw[p5,p2,e9];exact e4,by rw[hlen];exact hroom,by rw[hlen];omega,yA (Nat.le_of_lt hkl) g e7 f7 (fun j hj=>?_) (fun j hj=>?_) (fun j hj=>?_)⟩
   ·rw[p6,if_neg (by omega),p3,if_neg (by omega)]
   ·rw[p6,if_pos (by omega),<-hVg j hj];congr 1;omega
   ·rw[p6,if_neg (by omega),p3,if_pos (by rw[hdl];omega),List.getElem?_drop,<-hLg _ (by omega)];congr 1;omega
  ·exact Rel.os (hd:=⟨none,.slice (some ⟨b,o,none⟩) (l.length+v.length) cap,[],[b]⟩) (if_pos rfl) rfl
 ·refine(insD_grow b o l.length cap k b1 oo1 v.length cap1 L V w hkl hvl e5 (by omega) hfit hL hV hcs hvs hL1 hV1).mono fun e w' he=>?_;obtain⟨rfl,ROW,hR1,hR2,rfl⟩:=he;have hge:=kn w (l.length+v.length) cap 35;generalize grownCap w (l.length+v.length) cap 35=G at hR1 hge |-;have hdl:(L.drop (k*9)).length=(l.length - k)*9:=by rw[List.length_drop,hL];omega
  have hG9:(l.length+v.length)*9<=G*9:=Nat.mul_le_mul_right _ hge;obtain⟨cs2,p1,p2,p3⟩:=kw (b:=w.heap.size) (ty:=35) V (k*9) (w.alloc (.cells ROW 35)).drew (fR w _) (by rw[hV,hR1];omega) hV1;obtain⟨cs3,p4,p5,p6⟩:=kw (b:=w.heap.size) (ty:=35) (L.drop (k*9)) ((k+v.length)*9) ((w.alloc (.cells ROW 35)).drew.setCells w.heap.size (k*9) V).drew p1.here (by rw[p2,hR1,hdl];omega) (fun u hu=>hL1 u (List.mem_of_mem_drop hu));have hput:∀ c,c<w.heap.size->((((w.alloc (.cells ROW 35)).drew.setCells w.heap.size (k*9) V).drew).setCells w.heap.size ((k+v.length)*9) (L.drop (k*9))).heap[c]? =w.heap[c]?:=fun c hc=>
   (p4.other c (by omega)).trans ((p1.other c (by omega)).trans (iL w _ c hc))
  have hsize:((((w.alloc (.cells ROW 35)).drew.setCells w.heap.size (k*9) V).drew).setCells w.heap.size ((k+v.length)*9) (L.drop (k*9))).heap.size=w.heap.size+1:=p4.size.trans (p1.size.trans (et w _));refine fin (own.move [0,1] 2 ⟨none,.slice (some ⟨w.heap.size,0,none⟩) (l.length+v.length) G,[],[w.heap.size]⟩) _ _ (eM hHp hn [0,1] hK _ _ (fun c hc=>?_) (fun c hc _=>hput c hc) (by rw[hsize];omega) (p4.os.trans p1.os) (p4.tape.trans p1.tape) (p4.output.trans p1.output) fun own' g=>?_) ?_
  ·simp at hc;subst hc;exact .inr ⟨Nat.le_refl _,by rw[hsize];omega⟩
  ·refine .inr ⟨w.heap.size,0,G,cs3,35,by rw[hlen],rfl,p4.here,by rw[p5,p2,e9,hR1];omega,by rw[hlen];exact hge,by rw[hlen];omega,yA (Nat.le_of_lt hkl) g e7 f7 (fun j hj=>?_) (fun j hj=>?_) (fun j hj=>?_)⟩
   ·have hjL:j<L.length:=by omega
    rw[p6,if_neg (by omega),p3,if_neg (by omega),Nat.zero_add,hR2 j _ hj (List.getElem?_eq_getElem hjL),<-List.getElem?_eq_getElem hjL,hLg j (by omega)]
   ·rw[p6,if_neg (by omega),p3,if_pos (by omega),<-hVg j hj];congr 1;omega
   ·rw[p6,if_pos (by rw[hdl];omega),List.getElem?_drop,<-hLg _ (by omega)];congr 1;omega
  ·exact Rel.os (hd:=⟨none,.slice (some ⟨w.heap.size,0,none⟩) (l.length+v.length) G,[],[w.heap.size]⟩) (if_pos rfl) rfl
end
end Go.Sx
end
section
namespace Go.Sx
open Go.Proofs
open IntKind (i64 u64)
def al (d:District)(l_:List Deed)(x:Deed):List Deed×Int:=letI q0:=aj l_ x.no;letI q1:=nF (q0.1) l_ ([x]);letI q2:=ah d l_;letI q3:=ah d q1;(bif(q2 !=0)then([],q2)else(bif q0.2 then([],171)else(bif(q3 !=0)then([],q3)else(q1,0))))
def cA (d:District)(l_:List Deed)(x:Deed):Prop:=letI q0:=aj l_ x.no;((cX d l_)/\(((ah d l_) !=0)=false->((bq l_ x.no)/\(q0.2=false->((l_.length*88<=fY)/\((oZ (q0.1) l_ ([x]))/\(cX d (nF (q0.1) l_ ([x])))))))))
@[go_sem] def iV:List SV->Option Con:=(pD .district fun d=>(pR .deed fun l_=>(pD .deed fun x=>(pE (.det (cA d l_ x) (.tup [.nw .deed ((al d l_ x).1),.v (.int .i64 ((al d l_ x).2))]))))))
theorem zq37 {p:Prop}(h:p:=by simp only[go_sem,Nat.reduceBEq,Nat.reduceLeDiff,Nat.reduceLT,decide_true,Nat.reduceAdd,Nat.reduceSub,Nat.reduceMul,Int.reduceLE,Int.reduceLT,Int.reduceToNat,Int.reduceNeg,reduceCtorEq];all_goals exact cl3):p:=h
theorem ka:FnOk Tryz.prog 13 iV:=by
 have hG:ConsOk Tryz.prog (mkG [(15,fun l=>ei (dJ [.st .district,.sl .deed] l)),(36,fun l=>db (dJ [.sl .deed,.o,.o] l)),(40,fun l=>gY (dJ [.sl .deed] l))] [(39,Af)]):=aV (cgc (eX.norm [.st .district,.sl .deed]) (cgc (eL.norm [.sl .deed,.o,.o]) (cgc (jU.norm [.sl .deed]) cg0))) (cgc HD cg0);refine qW [(.tmp 6,.deed)] mixed aC hG (fn:=Tryz.f13) (c:=ag Tryz.f13) kr kr kr kr (cq fun d=>(gn fun l_=>(cq fun x=>(bw (fun hp=>?_)))));dsimp only[bb]at hp;unfold cA at hp;refine⟨nbl rfl,L0,ak _,?_⟩
 ·unfold ag Tryz.f13;try unfold al
  exact zq37
def aH (x:Deed)(known:Int)(hour:Int)(void_:List (Int×Bool)):Bool:=((((x.kind==4) ||(decide (x.known > known))) ||(decide (x.at_ > hour))) ||(dG .int .bool void_ x.no))
@[go_sem] def f9:List SV->Option Con:=(pD .deed fun x=>(pX .int fun known=>(pX .int fun hour=>(pXM .int .bool fun void_=>(pE (.det True (.v (.bool (aH x known hour void_)))))))))
theorem iW:FnOk Tryz.prog 76 f9:=by
 have hG:ConsOk Tryz.prog (mkG [] []):=aV cg0 cg0;refine cj [.o] mixed aC hG (fn:=Tryz.f76) (c:=ag Tryz.f76) kr kr kr kr (cq fun x=>(wS fun known=>(wS fun hour=>(Bn fun void_=>(bw (fun hp=>?_))))));dsimp only[bb]at hp;refine⟨nbl rfl,L0,ak _,?_⟩
 ·unfold ag Tryz.f76;try unfold aH
  exact zq1
def cn (a:Deed)(b:Deed):Int:=(cU a.at_ b.at_)
@[go_sem] def f_:List SV->Option Con:=(pD .deed fun a=>(pD .deed fun b=>(pE (.det True (.v (.int .i64 (cn a b)))))))
theorem iX:FnOk Tryz.prog 78 f_:=by
 have hG:ConsOk Tryz.prog (mkG [(38,eT)] []):=aV (cgc fM cg0) cg0;refine cj [.o] mixed aC hG (fn:=Tryz.f78) (c:=ag Tryz.f78) kr kr kr kr (cq fun a=>(cq fun b=>(bw (fun hp=>?_))));dsimp only[bb]at hp;refine⟨nbl rfl,L0,ak _,?_⟩
 ·unfold ag Tryz.f78;try unfold cn
  exact zq1
@[go_sem] def cJ (s_:List Deed)(known:Int)(hour:Int)(void_:List (Int×Bool))(k_0:Nat)(s_0:Unit):Int⊕Unit:=(bif(aH (s_.getD k_0 default) known hour void_)then .inl (k_0:Int)else .inr ())
def ay (s_:List Deed)(known:Int)(hour:Int)(void_:List (Int×Bool)):Int:=(match aq (cJ s_ known hour void_) s_.length 0 ()with| .inl x_0_0=>x_0_0| .inr s_0=>(-1))
@[go_sem] def dU:List SV->Option Con:=(pR .deed fun s_=>(pFn 76 (pX .int fun known=>(pX .int fun hour=>(pXM .int .bool fun void_=>(pE ((pE (.det True (.v (.int .i64 (ay s_ known hour void_))))))))))))
theorem gf:FnOk Tryz.prog 65 dU:=by
 have hG:ConsOk Tryz.prog (mkG [(76,fun l=>f9 (dJ [.st .deed,.o,.o,.o] l))] []):=aV (cgc (iW.norm [.st .deed,.o,.o,.o]) cg0) cg0;refine cj [.o] mixed aC hG (fn:=Tryz.f65) (c:=ag Tryz.f65) kr kr kr kr (gn fun s_=>(pO (wS fun known=>(wS fun hour=>(Bn fun void_=>(bw ((bw (fun hp=>?_)))))))));dsimp only[bb]at hp;refine⟨nbl rfl,(fun id st=>bif Nat.beq id 0 then some (LCR (ρ:=Int) (σ:=Unit) 0 [] [] (fun k_0 s_0=>⟨[(0,.rs .deed s_),(1,.fn 76 [] [.ep [.v (.int .i64 known)] 0,.ep [.v (.int .i64 hour)] 0,.ep [.rm .int .bool void_] 0]),(7,.v (.int .i64 (s_.length:Int))),(8,.v (.int .i64 (k_0:Int)))],[]⟩) (cJ s_ known hour void_) pT s_.length () (s_.length<=bR) (fun _=>.ret) (fun x_0_0=>⟨[(4,.v (.int .i64 x_0_0))],[]⟩) st)else none),?_,?_⟩
 ·unfold ag Tryz.f65;simp only[ap,true_and,and_true]
  ·refine ew mixed aC hG kr (fun _=>rfl) (s_.length:Int) rfl mT (fun hb0 k_0 s_0 hlt0 _ hw hc=>⟨L0,ak _,?_⟩) (fun hb0 s_0 hc=>?_)
   ·exact dH (jl [])
   ·exact dI (jl [])
 ·unfold ag Tryz.f65;try unfold ay
  exact zq1
@[go_sem] noncomputable def c5:List SV->Option Con:=fun l=>(orC (c_ l) (dU l))
theorem gz:FnOk Tryz.prog 65 c5:=(FnOk.or d5 gf)
@[go_sem] def aZ (l_:List Deed)(known:Int)(hour:Int)(void_:List (Int×Bool))(k_0:Nat)(s_0:List Deed×Int×Int):(Int×List Deed)⊕(List Deed×Int×Int):=letI q0:=s_0.1.getD (Int.toNat s_0.2.2) default;letI q1:=i64.wrap (s_0.2.2+1);(bif(decide (s_0.2.2< (s_0.1.length:Int)))then(bif(!(aH q0 known hour void_))then .inr ((s_0.1.set (Int.toNat s_0.2.1) q0),(i64.wrap (s_0.2.1+1)),q1)else .inr (s_0.1,s_0.2.1,q1))else .inl (s_0.2.1,s_0.1))
def bi (l_:List Deed)(known:Int)(hour:Int)(void_:List (Int×Bool))(k_0:Nat)(s_0:List Deed×Int×Int):Prop:=letI q0:=(s_0.1.length:Int);(s_0.1.length<=bR->((decide (s_0.2.2<q0))=true->((0<=s_0.2.2/\s_0.2.2<q0)/\((!(aH (s_0.1.getD (Int.toNat s_0.2.2) default) known hour void_))=true->(0<=s_0.2.1/\s_0.2.1<q0)))))
def aK (l_:List Deed)(known:Int)(hour:Int)(void_:List (Int×Bool)):List Deed:=letI q0:=ay l_ known hour void_;(bif(q0==(-1))then l_ else(match aq (aZ l_ known hour void_) (l_.length+1) 0 (l_,q0,(i64.wrap (q0+1)))with| .inl x_0_0=>(((sF .deed x_0_0.2 x_0_0.1 (x_0_0.2.length:Int)).take (Int.toNat x_0_0.1)).drop 0) | .inr s_0=>default))
def aN (l_:List Deed)(known:Int)(hour:Int)(void_:List (Int×Bool)):Prop:=letI q0:=ay l_ known hour void_;letI q1:=aZ l_ known hour void_;letI q2:=(l_,q0,(i64.wrap (q0+1)));letI q3:=l_.length+1;((q0==(-1))=false->(okI q1 (bi l_ known hour void_) q3 0 q2/\(∀ z_,aq q1 q3 0 q2≠ .inr z_)/\(∀ x_0_0,aq q1 q3 0 q2=.inl x_0_0->((0<=x_0_0.1/\x_0_0.1<=(x_0_0.2.length:Int))/\(0<=0/\0<=x_0_0.1/\x_0_0.1<=((sF .deed x_0_0.2 x_0_0.1 (x_0_0.2.length:Int)).length:Int))))))
noncomputable def c6:List SV->List Ob->Option HCon:=fq (fun x_:(List Deed)×Int×Int×(List (Int×Bool)) =>[.os 0,.fn 76 [] [.ptr 1 0,.ptr 2 0,.ptr 3 0]]) (fun x_=>[.row .deed x_.1,.cells [.v (.int .i64 x_.2.1)],.cells [.v (.int .i64 x_.2.2.1)],.cells [.os 4],.mp .int .bool x_.2.2.2 none]) (fun x_=>dK (aN x_.1 x_.2.1 x_.2.2.1 x_.2.2.2) (.os 5) [.dead,.cells [.v (.int .i64 x_.2.1)],.cells [.v (.int .i64 x_.2.2.1)],.cells [.os 4],.mp .int .bool x_.2.2.2 none,.row .deed (aK x_.1 x_.2.1 x_.2.2.1 x_.2.2.2)])
@[go_sem] theorem mV (l_:List Deed)(known:Int)(hour:Int)(void_:List (Int×Bool)){p4_:Option (Nat×Option Tag.int.T)}(hp4_:p4_=none):c6 ([.os 0,.fn (76:Nat) [] [.ptr 1 0,.ptr 2 0,.ptr 3 0]]) ([.row .deed l_,.cells [.v (.int .i64 known)],.cells [.v (.int .i64 hour)],.cells [.os 4],.mp .int .bool void_ p4_])=some (dK (aN l_ known hour void_) (.os 5) [.dead,.cells [.v (.int .i64 known)],.cells [.v (.int .i64 hour)],.cells [.os 4],.mp .int .bool void_ none,.row .deed (aK l_ known hour void_)]):=by
 subst hp4_;exact dM (A:=fun x_:(List Deed)×Int×Int×(List (Int×Bool)) =>[.os 0,.fn 76 [] [.ptr 1 0,.ptr 2 0,.ptr 3 0]]) (H:=fun x_=>[.row .deed x_.1,.cells [.v (.int .i64 x_.2.1)],.cells [.v (.int .i64 x_.2.2.1)],.cells [.os 4],.mp .int .bool x_.2.2.2 none]) (K:=fun x_=>dK (aN x_.1 x_.2.1 x_.2.2.1 x_.2.2.2) (.os 5) [.dead,.cells [.v (.int .i64 x_.2.1)],.cells [.v (.int .i64 x_.2.2.1)],.cells [.os 4],.mp .int .bool x_.2.2.2 none,.row .deed (aK x_.1 x_.2.1 x_.2.2.1 x_.2.2.2)]) (x:=(l_,known,hour,void_))
theorem zq41 {l0 l1:List Nat}(a0:JL l0)(a1:JL l1){p:Prop}(h:JL l0->JL l1->p:=by intro ja jb;simp only[go_sem,Nat.reduceBEq,Nat.reduceLeDiff,Nat.reduceLT,decide_true,Nat.reduceAdd,Nat.reduceSub,Nat.reduceMul,Int.reduceLE,Int.reduceLT,Int.reduceToNat,Int.reduceNeg,reduceCtorEq,c5];all_goals exact jT ja jb):p:=h a0 a1
theorem gA:FnOkO Tryz.prog 75 (c6):=by
 have hG:ConsOk Tryz.prog (mkG [(65,fun l=>c5 (dJ [.sl .deed,.o] l)),(76,fun l=>f9 (dJ [.st .deed,.o,.o,.o] l))] []):=aV (cgc (gz.norm [.sl .deed,.o]) (cgc (iW.norm [.st .deed,.o,.o,.o]) cg0)) cg0;refine fo mixed aC hG (fn:=Tryz.f75) (c:=ag Tryz.f75) kr kr kr kr fun l o con h=>?_;obtain⟨⟨l_,known,hour,void_⟩,rfl,rfl,rfl⟩:=cG h;clear h;try dsimp only
 refine⟨_,_,_,rfl,fun hp=>?_⟩;unfold aN at hp;refine⟨nbl rfl,(fun id st=>bif Nat.beq id 0 then some (LCV (ρ:=(Int×List Deed)) (σ:=(List Deed×Int×Int)) 5 [] [0,1,2,3,4] (fun k_0 s_0=>⟨[(0,.os 0),(1,.fn 76 [] [.ptr 1 0,.ptr 2 0,.ptr 3 0]),(5,.v (.int .i64 s_0.2.1)),(6,.v (.int .i64 s_0.2.2))],[.row .deed s_0.1,.cells [.v (.int .i64 known)],.cells [.v (.int .i64 hour)],.cells [.os 4],.mp .int .bool void_ none]⟩) (aZ l_ known hour void_) (bi l_ known hour void_) (l_.length+1) (l_,(ay l_ known hour void_),(i64.wrap ((ay l_ known hour void_)+1))) (fun _=>.normal) (fun x_0_0=>⟨[(0,.os 0),(5,.v (.int .i64 x_0_0.1))],[.row .deed x_0_0.2,.cells [.v (.int .i64 known)],.cells [.v (.int .i64 hour)],.cells [.os 4],.mp .int .bool void_ none]⟩) st)else none),?_,?_⟩
 ·unfold ag Tryz.f75;simp only[ap,true_and,and_true,and_assoc]
  ·refine eS mixed aC hG kr (fun _=>rfl) fun k_0 s_0 hq0=>⟨L0,ak _,?_⟩
   ·unfold bi at hq0;exact cI (jl [0,1,2,3,4])
 ·unfold ag Tryz.f75;try unfold aK
  exact zq41 (jl [0,1,2,3,4,0]) (jl [0,1,2,3,4,5])
@[go_sem] def aL (a:Int)(l_:List Deed)(k_1:Nat)(s_1:List Deed×Int):(List Deed)⊕(List Deed×Int):=letI q0:=i64.wrap (s_1.2 - 1);letI q1:=s_1.1.getD (Int.toNat s_1.2) default;letI q2:=s_1.1.getD (Int.toNat q0) default;(bif((decide (s_1.2 > a))&&(decide ((cn q1 q2) <0)))then .inr (((s_1.1.set (Int.toNat s_1.2) q2).set (Int.toNat q0) q1),q0)else .inl s_1.1)
def aS (a:Int)(l_:List Deed)(k_1:Nat)(s_1:List Deed×Int):Prop:=letI q0:=i64.wrap (s_1.2 - 1);letI q2:=decide (s_1.2 > a);letI q3:=(s_1.1.length:Int);letI q1:=0<=s_1.2/\s_1.2<q3;letI q4:=s_1.1.getD (Int.toNat q0) default;((q2=true->q1)/\((q2=true->(0<=q0/\q0<q3))/\((q2&&(decide ((cn (s_1.1.getD (Int.toNat s_1.2) default) q4) <0)))=true->((0<=q0/\q0<q3)/\(q1/\(q1/\(0<=q0/\q0< ((s_1.1.set (Int.toNat s_1.2) q4).length:Int))))))))
@[go_sem] def aA (a:Int)(b:Int)(l_:List Deed)(k_0:Nat)(s_0:List Deed×Int):(List Deed)⊕(List Deed×Int):=(bif(decide (s_0.2<b))then(match aq (aL a l_) (l_.length+1) 0 (s_0.1,s_0.2)with| .inl x_1_0=>.inr (x_1_0,(i64.wrap (s_0.2+1))) | .inr s_1=>.inr default)else .inl s_0.1)
def aG (a:Int)(b:Int)(l_:List Deed)(k_0:Nat)(s_0:List Deed×Int):Prop:=letI q0:=aL a l_;((decide (s_0.2<b))=true->(okI q0 (aS a l_) (l_.length+1) 0 (s_0.1,s_0.2)/\(∀ z_,aq q0 (l_.length+1) 0 (s_0.1,s_0.2)≠ .inr z_)))
def am (a:Int)(b:Int)(l_:List Deed):List Deed:=(match aq (aA a b l_) (l_.length+1) 0 (l_,(i64.wrap (a+1)))with| .inl x_0_0=>x_0_0| .inr s_0=>default)
def aB (a:Int)(b:Int)(l_:List Deed):Prop:=letI q0:=aA a b l_;letI q1:=(l_,(i64.wrap (a+1)));(okI q0 (aG a b l_) (l_.length+1) 0 q1/\(∀ z_,aq q0 (l_.length+1) 0 q1≠ .inr z_))
noncomputable def cK:List SV->List Ob->Option HCon:=fq (fun x_:Int×Int×(List Deed) =>[.os 0,.v (.int .i64 x_.1),.v (.int .i64 x_.2.1),.fn 78 [] []]) (fun x_=>[.row .deed x_.2.2]) (fun x_=>dK (aB x_.1 x_.2.1 x_.2.2) (.tup []) [.row .deed (am x_.1 x_.2.1 x_.2.2)])
@[go_sem] theorem mS (a:Int)(b:Int)(l_:List Deed):cK ([.os 0,.v (.int .i64 a),.v (.int .i64 b),.fn 78 [] []]) ([.row .deed l_])=some (dK (aB a b l_) (.tup []) [.row .deed (am a b l_)]):=dM (A:=fun x_:Int×Int×(List Deed) =>[.os 0,.v (.int .i64 x_.1),.v (.int .i64 x_.2.1),.fn 78 [] []]) (H:=fun x_=>[.row .deed x_.2.2]) (K:=fun x_=>dK (aB x_.1 x_.2.1 x_.2.2) (.tup []) [.row .deed (am x_.1 x_.2.1 x_.2.2)]) (x:=(a,b,l_))
theorem gh:FnOkO Tryz.prog 134 (cK):=by
 have hG:ConsOk Tryz.prog (mkG [(78,fun l=>f_ (dJ [.st .deed,.st .deed] l))] []):=aV (cgc (iX.norm [.st .deed,.st .deed]) cg0) cg0;refine fo mixed aC hG (fn:=Tryz.f134) (c:=ag Tryz.f134) kr kr kr kr fun l o con h=>?_;obtain⟨⟨a,b,l_⟩,rfl,rfl,rfl⟩:=cG h;clear h;try dsimp only
 refine⟨_,_,_,rfl,fun hp=>?_⟩;unfold aB at hp;refine⟨nbl rfl,(fun id st=>bif Nat.beq id 0 then some (LCV (ρ:=(List Deed)) (σ:=(List Deed×Int)) 1 [] [0] (fun k_0 s_0=>⟨[(0,.os 0),(1,.v (.int .i64 a)),(2,.v (.int .i64 b)),(3,.fn 78 [] []),(8,.v (.int .i64 s_0.2))],[.row .deed s_0.1]⟩) (aA a b l_) (aG a b l_) (l_.length+1) (l_,(i64.wrap (a+1))) (fun _=>.normal) (fun x_0_0=>⟨[],[.row .deed x_0_0]⟩) st)else none),?_,?_⟩
 ·unfold ag Tryz.f134;simp only[ap,true_and,and_true,and_assoc]
  ·refine eS mixed aC hG kr (fun _=>rfl) fun k_0 s_0 hq0=>⟨(fun id st=>bif Nat.beq id 2 then some (LCV (ρ:=(List Deed)) (σ:=(List Deed×Int)) 1 [] [0] (fun k_1 s_1=>⟨[(0,.os 0),(1,.v (.int .i64 a)),(2,.v (.int .i64 b)),(3,.fn 78 [] []),(8,.v (.int .i64 s_0.2)),(9,.v (.int .i64 s_1.2))],[.row .deed s_1.1]⟩) (aL a l_) (aS a l_) (l_.length+1) (s_0.1,s_0.2) (fun _=>.normal) (fun x_1_0=>⟨[(0,.os 0),(1,.v (.int .i64 a)),(2,.v (.int .i64 b)),(3,.fn 78 [] []),(8,.v (.int .i64 s_0.2))],[.row .deed x_1_0]⟩) st)else none),?_,?_⟩
   ·simp only[ap,true_and,and_true]
    ·refine eS mixed aC hG kr (fun _=>rfl) fun k_1 s_1 hq1=>⟨L0,ak _,?_⟩
     ·unfold aS at hq1;exact cI (jl [0])
   ·unfold aG at hq0;exact cI (jl [0])
 ·unfold ag Tryz.f134;try unfold am
  exact cI (jl [0])
@[go_sem] def bg (a:Int)(b:Int)(n:Int)(k_0:Nat)(s_0:List Deed):Empty⊕(List Deed):=letI q0:=Int.toNat (i64.wrap (a+(k_0:Int)));letI q1:=Int.toNat (i64.wrap (b+(k_0:Int)));.inr ((s_0.set q0 (s_0.getD q1 default)).set q1 (s_0.getD q0 default))
def bF (a:Int)(b:Int)(n:Int)(k_0:Nat)(s_0:List Deed):Prop:=letI q0:=i64.wrap (b+(k_0:Int));letI q1:=i64.wrap (a+(k_0:Int));letI q2:=(s_0.length:Int);((0<=q0/\q0<q2)/\((0<=q1/\q1<q2)/\((0<=q1/\q1<q2)/\(0<=q0/\q0< ((s_0.set (Int.toNat q1) (s_0.getD (Int.toNat q0) default)).length:Int)))))
def aI (a:Int)(b:Int)(n:Int)(l_:List Deed):List Deed:=(match aq (bg a b n) (Int.toNat n) 0 l_ with| .inl x=>x.elim| .inr s_0=>s_0)
def aF (a:Int)(b:Int)(n:Int)(l_:List Deed):Prop:=((n<9223372036854775808)/\okI (bg a b n) (bF a b n) (Int.toNat n) 0 l_)
noncomputable def dp:List SV->List Ob->Option HCon:=fq (fun x_:Int×Int×Int×(List Deed) =>[.os 0,.v (.int .i64 x_.1),.v (.int .i64 x_.2.1),.v (.int .i64 x_.2.2.1),.fn 78 [] []]) (fun x_=>[.row .deed x_.2.2.2]) (fun x_=>dK (aF x_.1 x_.2.1 x_.2.2.1 x_.2.2.2) (.tup []) [.row .deed (aI x_.1 x_.2.1 x_.2.2.1 x_.2.2.2)])
@[go_sem] theorem nW (a:Int)(b:Int)(n:Int)(l_:List Deed):dp ([.os 0,.v (.int .i64 a),.v (.int .i64 b),.v (.int .i64 n),.fn 78 [] []]) ([.row .deed l_])=some (dK (aF a b n l_) (.tup []) [.row .deed (aI a b n l_)]):=dM (A:=fun x_:Int×Int×Int×(List Deed) =>[.os 0,.v (.int .i64 x_.1),.v (.int .i64 x_.2.1),.v (.int .i64 x_.2.2.1),.fn 78 [] []]) (H:=fun x_=>[.row .deed x_.2.2.2]) (K:=fun x_=>dK (aF x_.1 x_.2.1 x_.2.2.1 x_.2.2.2) (.tup []) [.row .deed (aI x_.1 x_.2.1 x_.2.2.1 x_.2.2.2)]) (x:=(a,b,n,l_))
theorem ig:FnOkO Tryz.prog 153 (dp):=by
 have hG:ConsOk Tryz.prog (mkG [] []):=aV cg0 cg0;refine fo mixed aC hG (fn:=Tryz.f153) (c:=ag Tryz.f153) kr kr kr kr fun l o con h=>?_;obtain⟨⟨a,b,n,l_⟩,rfl,rfl,rfl⟩:=cG h;clear h;try dsimp only
 refine⟨_,_,_,rfl,fun hp=>?_⟩;unfold aF at hp;refine⟨nbl rfl,(fun id st=>bif Nat.beq id 0 then some (LCR (ρ:=Empty) (σ:=(List Deed)) 1 [] [0] (fun k_0 s_0=>⟨[(0,.os 0),(1,.v (.int .i64 a)),(2,.v (.int .i64 b)),(3,.v (.int .i64 n)),(10,.v (.int .i64 (k_0:Int)))],[.row .deed s_0]⟩) (bg a b n) (bF a b n) (Int.toNat n) l_ (n<9223372036854775808) ((·.elim)) ((·.elim)) st)else none),?_,?_⟩
 ·unfold ag Tryz.f153;simp only[ap,true_and,and_true,and_assoc]
  ·refine ew mixed aC hG kr (fun _=>rfl) n rfl id (fun hb0 k_0 s_0 hlt0 hq0 hw hc=>⟨L0,ak _,?_⟩) (fun hb0 s_0 hc=>?_)
   ·unfold bF at hq0;try simp only[hw,Int.toNat_natCast]at hq0
    exact dH (jl [0])
   ·exact dI (jl [0])
 ·unfold ag Tryz.f153;try unfold aI
  exact cI (jl [0])
@[go_sem] def bG (a:Int)(m:Int)(b:Int)(k_0:Nat)(s_0:List Deed×Int×Int):(Int×List Deed)⊕(List Deed×Int×Int):=letI q0:=i64.wrap (m - s_0.2.1);(bif(s_0.2.1 !=s_0.2.2)then(bif(decide (s_0.2.1 > s_0.2.2))then .inr ((aI q0 m s_0.2.2 s_0.1),(i64.wrap (s_0.2.1 - s_0.2.2)),s_0.2.2)else .inr ((aI q0 (i64.wrap ((i64.wrap (m+s_0.2.2)) - s_0.2.1)) s_0.2.1 s_0.1),s_0.2.1,(i64.wrap (s_0.2.2 - s_0.2.1))))else .inl (s_0.2.1,s_0.1))
def bU (a:Int)(m:Int)(b:Int)(k_0:Nat)(s_0:List Deed×Int×Int):Prop:=letI q0:=i64.wrap (m - s_0.2.1);letI q1:=decide (s_0.2.1 > s_0.2.2);((s_0.2.1 !=s_0.2.2)=true->((q1=true->(aF q0 m s_0.2.2 s_0.1))/\(q1=false->(aF q0 (i64.wrap ((i64.wrap (m+s_0.2.2)) - s_0.2.1)) s_0.2.1 s_0.1))))
def ai (a:Int)(m:Int)(b:Int)(l_:List Deed):List Deed:=(match aq (bG a m b) (Int.toNat (b - a)+1) 0 (l_,(i64.wrap (m - a)),(i64.wrap (b - m)))with| .inl x_0_0=>(aI (i64.wrap (m - x_0_0.1)) m x_0_0.1 x_0_0.2) | .inr s_0=>default)
def aW (a:Int)(m:Int)(b:Int)(l_:List Deed):Prop:=letI q0:=(l_,(i64.wrap (m - a)),(i64.wrap (b - m)));letI q1:=bG a m b;letI q2:=Int.toNat (b - a)+1;(okI q1 (bU a m b) q2 0 q0/\(∀ z_,aq q1 q2 0 q0≠ .inr z_)/\(∀ x_0_0,aq q1 q2 0 q0=.inl x_0_0->(aF (i64.wrap (m - x_0_0.1)) m x_0_0.1 x_0_0.2)))
noncomputable def dE:List SV->List Ob->Option HCon:=fq (fun x_:Int×Int×Int×(List Deed) =>[.os 0,.v (.int .i64 x_.1),.v (.int .i64 x_.2.1),.v (.int .i64 x_.2.2.1),.fn 78 [] []]) (fun x_=>[.row .deed x_.2.2.2]) (fun x_=>dK (aW x_.1 x_.2.1 x_.2.2.1 x_.2.2.2) (.tup []) [.row .deed (ai x_.1 x_.2.1 x_.2.2.1 x_.2.2.2)])
@[go_sem] theorem o4 (a:Int)(m:Int)(b:Int)(l_:List Deed):dE ([.os 0,.v (.int .i64 a),.v (.int .i64 m),.v (.int .i64 b),.fn 78 [] []]) ([.row .deed l_])=some (dK (aW a m b l_) (.tup []) [.row .deed (ai a m b l_)]):=dM (A:=fun x_:Int×Int×Int×(List Deed) =>[.os 0,.v (.int .i64 x_.1),.v (.int .i64 x_.2.1),.v (.int .i64 x_.2.2.1),.fn 78 [] []]) (H:=fun x_=>[.row .deed x_.2.2.2]) (K:=fun x_=>dK (aW x_.1 x_.2.1 x_.2.2.1 x_.2.2.2) (.tup []) [.row .deed (ai x_.1 x_.2.1 x_.2.2.1 x_.2.2.2)]) (x:=(a,m,b,l_))
theorem iY:FnOkO Tryz.prog 148 (dE):=by
 have hG:ConsOk Tryz.prog (mkG [] [(153,dp)]):=aV cg0 (cgc ig cg0);refine fo mixed aC hG (fn:=Tryz.f148) (c:=ag Tryz.f148) kr kr kr kr fun l o con h=>?_;obtain⟨⟨a,m,b,l_⟩,rfl,rfl,rfl⟩:=cG h;clear h;try dsimp only
 refine⟨_,_,_,rfl,fun hp=>?_⟩;unfold aW at hp;refine⟨nbl rfl,(fun id st=>bif Nat.beq id 0 then some (LCV (ρ:=(Int×List Deed)) (σ:=(List Deed×Int×Int)) 1 [] [0] (fun k_0 s_0=>⟨[(0,.os 0),(2,.v (.int .i64 m)),(4,.fn 78 [] []),(10,.v (.int .i64 s_0.2.1)),(11,.v (.int .i64 s_0.2.2))],[.row .deed s_0.1]⟩) (bG a m b) (bU a m b) (Int.toNat (b - a)+1) (l_,(i64.wrap (m - a)),(i64.wrap (b - m))) (fun _=>.normal) (fun x_0_0=>⟨[(0,.os 0),(2,.v (.int .i64 m)),(4,.fn 78 [] []),(10,.v (.int .i64 x_0_0.1))],[.row .deed x_0_0.2]⟩) st)else none),?_,?_⟩
 ·unfold ag Tryz.f148;simp only[ap,true_and,and_true,and_assoc]
  ·refine eS mixed aC hG kr (fun _=>rfl) fun k_0 s_0 hq0=>⟨L0,ak _,?_⟩
   ·unfold bU at hq0;exact cI (jl [0])
 ·unfold ag Tryz.f148;try unfold ai
  exact cI (jl [0])
noncomputable def wX (rec_:Int->Int->Int->List Deed->List Deed)(recp_:Int->Int->Int->List Deed->Prop):List SV->List Ob->Option HCon:=fq (fun x_:Int×Int×Int×(List Deed) =>[.os 0,.v (.int .i64 x_.1),.v (.int .i64 x_.2.1),.v (.int .i64 x_.2.2.1),.fn 78 [] []]) (fun x_=>[.row .deed x_.2.2.2]) (fun x_=>dK (recp_ x_.1 x_.2.1 x_.2.2.1 x_.2.2.2) (.tup []) [.row .deed (rec_ x_.1 x_.2.1 x_.2.2.1 x_.2.2.2)])
@[go_sem] theorem vD (rec_:Int->Int->Int->List Deed->List Deed)(recp_:Int->Int->Int->List Deed->Prop)(a:Int)(m:Int)(b:Int)(l_:List Deed):wX rec_ recp_ ([.os 0,.v (.int .i64 a),.v (.int .i64 m),.v (.int .i64 b),.fn 78 [] []]) ([.row .deed l_])=some (dK (recp_ a m b l_) (.tup []) [.row .deed (rec_ a m b l_)]):=dM (A:=fun x_:Int×Int×Int×(List Deed) =>[.os 0,.v (.int .i64 x_.1),.v (.int .i64 x_.2.1),.v (.int .i64 x_.2.2.1),.fn 78 [] []]) (H:=fun x_=>[.row .deed x_.2.2.2]) (K:=fun x_=>dK (recp_ x_.1 x_.2.1 x_.2.2.1 x_.2.2.2) (.tup []) [.row .deed (rec_ x_.1 x_.2.1 x_.2.2.1 x_.2.2.2)]) (x:=(a,m,b,l_))
@[go_sem] def kx (a:Int)(l_:List Deed)(k_0:Nat)(s_0:Int×Int):Int⊕(Int×Int):=letI q0:=i64.wrap (gD .u64 (u64.wrap (i64.wrap (s_0.1+s_0.2))) 1);(bif(decide (s_0.1<s_0.2))then(bif(decide ((cn (l_.getD (Int.toNat q0) default) (l_.getD (Int.toNat a) default)) <0))then .inr ((i64.wrap (q0+1)),s_0.2)else .inr (s_0.1,q0))else .inl s_0.1)
def kG (a:Int)(l_:List Deed)(k_0:Nat)(s_0:Int×Int):Prop:=letI q0:=i64.wrap (gD .u64 (u64.wrap (i64.wrap (s_0.1+s_0.2))) 1);((decide (s_0.1<s_0.2))=true->((0<=q0/\q0< (l_.length:Int))/\(0<=a/\a< (l_.length:Int))))
@[go_sem] def mE (l_:List Deed)(x_0_0:Int)(k_1:Nat)(s_1:List Deed×Int):(List Deed)⊕(List Deed×Int):=letI q0:=i64.wrap (s_1.2+1);(bif(decide (s_1.2< (i64.wrap (x_0_0 - 1))))then .inr (((s_1.1.set (Int.toNat s_1.2) (s_1.1.getD (Int.toNat q0) default)).set (Int.toNat q0) (s_1.1.getD (Int.toNat s_1.2) default)),q0)else .inl s_1.1)
def l6 (l_:List Deed)(x_0_0:Int)(k_1:Nat)(s_1:List Deed×Int):Prop:=letI q0:=i64.wrap (s_1.2+1);letI q2:=(s_1.1.length:Int);letI q1:=0<=s_1.2/\s_1.2<q2;((decide (s_1.2< (i64.wrap (x_0_0 - 1))))=true->((0<=q0/\q0<q2)/\(q1/\(q1/\(0<=q0/\q0< ((s_1.1.set (Int.toNat s_1.2) (s_1.1.getD (Int.toNat q0) default)).length:Int))))))
@[go_sem] def ky (m:Int)(l_:List Deed)(k_2:Nat)(s_2:Int×Int):Int⊕(Int×Int):=letI q0:=i64.wrap (gD .u64 (u64.wrap (i64.wrap (s_2.1+s_2.2))) 1);(bif(decide (s_2.1<s_2.2))then(bif(!(decide ((cn (l_.getD (Int.toNat m) default) (l_.getD (Int.toNat q0) default)) <0)))then .inr ((i64.wrap (q0+1)),s_2.2)else .inr (s_2.1,q0))else .inl s_2.1)
def kH (m:Int)(l_:List Deed)(k_2:Nat)(s_2:Int×Int):Prop:=letI q0:=i64.wrap (gD .u64 (u64.wrap (i64.wrap (s_2.1+s_2.2))) 1);((decide (s_2.1<s_2.2))=true->((0<=m/\m< (l_.length:Int))/\(0<=q0/\q0< (l_.length:Int))))
@[go_sem] def mF (l_:List Deed)(x_2_0:Int)(k_3:Nat)(s_3:List Deed×Int):(List Deed)⊕(List Deed×Int):=letI q0:=i64.wrap (s_3.2 - 1);(bif(decide (s_3.2 > x_2_0))then .inr (((s_3.1.set (Int.toNat s_3.2) (s_3.1.getD (Int.toNat q0) default)).set (Int.toNat q0) (s_3.1.getD (Int.toNat s_3.2) default)),q0)else .inl s_3.1)
def l7 (l_:List Deed)(x_2_0:Int)(k_3:Nat)(s_3:List Deed×Int):Prop:=letI q0:=i64.wrap (s_3.2 - 1);letI q2:=(s_3.1.length:Int);letI q1:=0<=s_3.2/\s_3.2<q2;((decide (s_3.2 > x_2_0))=true->((0<=q0/\q0<q2)/\(q1/\(q1/\(0<=q0/\q0< ((s_3.1.set (Int.toNat s_3.2) (s_3.1.getD (Int.toNat q0) default)).length:Int))))))
@[go_sem] def nX (a:Int)(m:Int)(b:Int)(l_:List Deed)(k_4:Nat)(s_4:Int×Int):Int⊕(Int×Int):=letI q0:=i64.wrap (gD .u64 (u64.wrap (i64.wrap (s_4.1+s_4.2))) 1);(bif(decide (s_4.1<s_4.2))then(bif(!(decide ((cn (l_.getD (Int.toNat (i64.wrap ((i64.wrap ((i64.wrap ((i64.wrap (gD .u64 (u64.wrap (i64.wrap (a+b))) 1))+m)) - 1)) - q0))) default) (l_.getD (Int.toNat q0) default)) <0)))then .inr ((i64.wrap (q0+1)),s_4.2)else .inr (s_4.1,q0))else .inl s_4.1)
def kI (a:Int)(m:Int)(b:Int)(l_:List Deed)(k_4:Nat)(s_4:Int×Int):Prop:=letI q0:=i64.wrap (gD .u64 (u64.wrap (i64.wrap (s_4.1+s_4.2))) 1);letI q1:=i64.wrap ((i64.wrap ((i64.wrap ((i64.wrap (gD .u64 (u64.wrap (i64.wrap (a+b))) 1))+m)) - 1)) - q0);((decide (s_4.1<s_4.2))=true->((0<=q1/\q1< (l_.length:Int))/\(0<=q0/\q0< (l_.length:Int))))
def wY (rec_:Int->Int->Int->List Deed->List Deed)(recp_:Int->Int->Int->List Deed->Prop)(a:Int)(m:Int)(b:Int)(l_:List Deed):List Deed:=letI q0:=i64.wrap (gD .u64 (u64.wrap (i64.wrap (a+b))) 1);letI q1:=i64.wrap (q0+m);letI q2:=l_.length+1;(bif((i64.wrap (m - a)) ==1)then(match aq (kx a l_) q2 0 (m,b)with| .inl x_0_0=>(match aq (mE l_ x_0_0) q2 0 (l_,a)with| .inl x_1_0=>x_1_0| .inr s_1=>default) | .inr s_0=>default)else(bif((i64.wrap (b - m)) ==1)then(match aq (ky m l_) q2 0 (a,m)with| .inl x_2_0=>(match aq (mF l_ x_2_0) q2 0 (l_,m)with| .inl x_3_0=>x_3_0| .inr s_3=>default) | .inr s_2=>default)else(match aq (nX a m b l_) q2 0 ((bif(decide (m > q0))then(i64.wrap (q1 - b))else a),(bif(decide (m > q0))then q0 else m))with| .inl x_4_0=>(bif((decide (x_4_0<m))&&(decide (m< (i64.wrap (q1 - x_4_0)))))then(bif((decide (a<x_4_0))&&(decide (x_4_0<q0)))then(bif((decide (q0< (i64.wrap (q1 - x_4_0))))&&(decide ((i64.wrap (q1 - x_4_0)) <b)))then(rec_ q0 (i64.wrap (q1 - x_4_0)) b (rec_ a x_4_0 q0 (ai x_4_0 m (i64.wrap (q1 - x_4_0)) l_)))else(rec_ a x_4_0 q0 (ai x_4_0 m (i64.wrap (q1 - x_4_0)) l_)))else(bif((decide (q0< (i64.wrap (q1 - x_4_0))))&&(decide ((i64.wrap (q1 - x_4_0)) <b)))then(rec_ q0 (i64.wrap (q1 - x_4_0)) b (ai x_4_0 m (i64.wrap (q1 - x_4_0)) l_))else(ai x_4_0 m (i64.wrap (q1 - x_4_0)) l_)))else(bif((decide (a<x_4_0))&&(decide (x_4_0<q0)))then(bif((decide (q0< (i64.wrap (q1 - x_4_0))))&&(decide ((i64.wrap (q1 - x_4_0)) <b)))then(rec_ q0 (i64.wrap (q1 - x_4_0)) b (rec_ a x_4_0 q0 l_))else(rec_ a x_4_0 q0 l_))else(bif((decide (q0< (i64.wrap (q1 - x_4_0))))&&(decide ((i64.wrap (q1 - x_4_0)) <b)))then(rec_ q0 (i64.wrap (q1 - x_4_0)) b l_)else l_))) | .inr s_4=>default)))
def mG (rec_:Int->Int->Int->List Deed->List Deed)(recp_:Int->Int->Int->List Deed->Prop)(a:Int)(m:Int)(b:Int)(l_:List Deed):Prop:=letI q0:=i64.wrap (gD .u64 (u64.wrap (i64.wrap (a+b))) 1);letI q1:=i64.wrap (q0+m);letI q2:=((bif(decide (m > q0))then(i64.wrap (q1 - b))else a),(bif(decide (m > q0))then q0 else m));letI q3:=l_.length+1;letI q4:=nX a m b l_;letI q5:=(i64.wrap (m - a)) ==1;letI q6:=(i64.wrap (b - m)) ==1;letI q7:=kx a l_;letI q8:=ky m l_;((q5=true->(okI q7 (kG a l_) q3 0 (m,b)/\(∀ z_,aq q7 q3 0 (m,b)≠ .inr z_)/\(∀ x_0_0,aq q7 q3 0 (m,b)=.inl x_0_0->(okI (mE l_ x_0_0) (l6 l_ x_0_0) q3 0 (l_,a)/\(∀ z_,aq (mE l_ x_0_0) q3 0 (l_,a)≠ .inr z_)))))/\(q5=false->((q6=true->(okI q8 (kH m l_) q3 0 (a,m)/\(∀ z_,aq q8 q3 0 (a,m)≠ .inr z_)/\(∀ x_2_0,aq q8 q3 0 (a,m)=.inl x_2_0->(okI (mF l_ x_2_0) (l7 l_ x_2_0) q3 0 (l_,m)/\(∀ z_,aq (mF l_ x_2_0) q3 0 (l_,m)≠ .inr z_)))))/\(q6=false->(okI q4 (kI a m b l_) q3 0 q2/\(∀ z_,aq q4 q3 0 q2≠ .inr z_)/\(∀ x_4_0,aq q4 q3 0 q2=.inl x_4_0->((((decide (x_4_0<m))&&(decide (m< (i64.wrap (q1 - x_4_0)))))=true->((aW x_4_0 m (i64.wrap (q1 - x_4_0)) l_)/\((((decide (a<x_4_0))&&(decide (x_4_0<q0)))=true->((recp_ a x_4_0 q0 (ai x_4_0 m (i64.wrap (q1 - x_4_0)) l_))/\(((decide (q0< (i64.wrap (q1 - x_4_0))))&&(decide ((i64.wrap (q1 - x_4_0)) <b)))=true->(recp_ q0 (i64.wrap (q1 - x_4_0)) b (rec_ a x_4_0 q0 (ai x_4_0 m (i64.wrap (q1 - x_4_0)) l_))))))/\(((decide (a<x_4_0))&&(decide (x_4_0<q0)))=false->(((decide (q0< (i64.wrap (q1 - x_4_0))))&&(decide ((i64.wrap (q1 - x_4_0)) <b)))=true->(recp_ q0 (i64.wrap (q1 - x_4_0)) b (ai x_4_0 m (i64.wrap (q1 - x_4_0)) l_)))))))/\(((decide (x_4_0<m))&&(decide (m< (i64.wrap (q1 - x_4_0)))))=false->((((decide (a<x_4_0))&&(decide (x_4_0<q0)))=true->((recp_ a x_4_0 q0 l_)/\(((decide (q0< (i64.wrap (q1 - x_4_0))))&&(decide ((i64.wrap (q1 - x_4_0)) <b)))=true->(recp_ q0 (i64.wrap (q1 - x_4_0)) b (rec_ a x_4_0 q0 l_)))))/\(((decide (a<x_4_0))&&(decide (x_4_0<q0)))=false->(((decide (q0< (i64.wrap (q1 - x_4_0))))&&(decide ((i64.wrap (q1 - x_4_0)) <b)))=true->(recp_ q0 (i64.wrap (q1 - x_4_0)) b l_))))))))))))
noncomputable def Ky (rec_:Int->Int->Int->List Deed->List Deed)(recp_:Int->Int->Int->List Deed->Prop):List SV->List Ob->Option HCon:=fq (fun x_:Int×Int×Int×(List Deed) =>[.os 0,.v (.int .i64 x_.1),.v (.int .i64 x_.2.1),.v (.int .i64 x_.2.2.1),.fn 78 [] []]) (fun x_=>[.row .deed x_.2.2.2]) (fun x_=>dK (mG rec_ recp_ x_.1 x_.2.1 x_.2.2.1 x_.2.2.2) (.tup []) [.row .deed (wY rec_ recp_ x_.1 x_.2.1 x_.2.2.1 x_.2.2.2)])
theorem HE (rec_:Int->Int->Int->List Deed->List Deed)(recp_:Int->Int->Int->List Deed->Prop)(hr:FnOkO Tryz.prog 135 (wX rec_ recp_)):FnOkO Tryz.prog 135 (Ky rec_ recp_):=by
 have hG:ConsOk Tryz.prog (mkG [(78,fun l=>f_ (dJ [.st .deed,.st .deed] l))] [(135,(wX rec_ recp_)),(148,dE)]):=aV (cgc (iX.norm [.st .deed,.st .deed]) cg0) (cgc hr (cgc iY cg0));refine fo mixed aC hG (fn:=Tryz.f135) (c:=ag Tryz.f135) kr kr kr kr fun l o con h=>?_;obtain⟨⟨a,m,b,l_⟩,rfl,rfl,rfl⟩:=cG h;clear h;try dsimp only
 refine⟨_,_,_,rfl,fun hp=>?_⟩;unfold mG at hp;refine⟨nbl rfl,(fun id st=>bif Nat.beq id 0 then some (LCV (ρ:=Int) (σ:=(Int×Int)) 1 [] [0] (fun k_0 s_0=>⟨[(0,.os 0),(1,.v (.int .i64 a)),(4,.fn 78 [] []),(10,.v (.int .i64 s_0.1)),(11,.v (.int .i64 s_0.2))],[.row .deed l_]⟩) (kx a l_) (kG a l_) (l_.length+1) (m,b) (fun _=>.normal) (fun x_0_0=>⟨[(0,.os 0),(1,.v (.int .i64 a)),(10,.v (.int .i64 x_0_0))],[.row .deed l_]⟩) st)else bif Nat.beq id 2 then some (LCV (ρ:=(List Deed)) (σ:=(List Deed×Int)) 1 [] [0] (fun k_1 s_1=>⟨[(0,.os 0),(10,.v (.int .i64 (eJ (aq (kx a l_) (l_.length+1) 0 (m,b))))),(13,.v (.int .i64 s_1.2))],[.row .deed s_1.1]⟩) (mE l_ (eJ (aq (kx a l_) (l_.length+1) 0 (m,b)))) (l6 l_ (eJ (aq (kx a l_) (l_.length+1) 0 (m,b)))) (l_.length+1) (l_,a) (fun _=>.normal) (fun x_1_0=>⟨[],[.row .deed x_1_0]⟩) st)else bif Nat.beq id 4 then some (LCV (ρ:=Int) (σ:=(Int×Int)) 1 [] [0] (fun k_2 s_2=>⟨[(0,.os 0),(2,.v (.int .i64 m)),(4,.fn 78 [] []),(14,.v (.int .i64 s_2.1)),(15,.v (.int .i64 s_2.2))],[.row .deed l_]⟩) (ky m l_) (kH m l_) (l_.length+1) (a,m) (fun _=>.normal) (fun x_2_0=>⟨[(0,.os 0),(2,.v (.int .i64 m)),(14,.v (.int .i64 x_2_0))],[.row .deed l_]⟩) st)else bif Nat.beq id 6 then some (LCV (ρ:=(List Deed)) (σ:=(List Deed×Int)) 1 [] [0] (fun k_3 s_3=>⟨[(0,.os 0),(14,.v (.int .i64 (eJ (aq (ky m l_) (l_.length+1) 0 (a,m))))),(17,.v (.int .i64 s_3.2))],[.row .deed s_3.1]⟩) (mF l_ (eJ (aq (ky m l_) (l_.length+1) 0 (a,m)))) (l7 l_ (eJ (aq (ky m l_) (l_.length+1) 0 (a,m)))) (l_.length+1) (l_,m) (fun _=>.normal) (fun x_3_0=>⟨[],[.row .deed x_3_0]⟩) st)else bif Nat.beq id 1000140 then some (JC (⟨[(0,.os 0),(1,.v (.int .i64 a)),(2,.v (.int .i64 m)),(3,.v (.int .i64 b)),(4,.fn 78 [] []),(18,.v (.int .i64 (i64.wrap (gD .u64 (u64.wrap (i64.wrap (a+b))) 1)))),(19,.v (.int .i64 (i64.wrap ((i64.wrap (gD .u64 (u64.wrap (i64.wrap (a+b))) 1))+m)))),(20,.v (.int .i64 (bif(decide (m > (i64.wrap (gD .u64 (u64.wrap (i64.wrap (a+b))) 1))))then(i64.wrap ((i64.wrap ((i64.wrap (gD .u64 (u64.wrap (i64.wrap (a+b))) 1))+m)) - b))else a))),(21,.v (.int .i64 (bif(decide (m > (i64.wrap (gD .u64 (u64.wrap (i64.wrap (a+b))) 1))))then(i64.wrap (gD .u64 (u64.wrap (i64.wrap (a+b))) 1))else m)))],[.row .deed l_]⟩))else bif Nat.beq id 8 then some (LCV (ρ:=Int) (σ:=(Int×Int)) 1 [] [0] (fun k_4 s_4=>⟨[(0,.os 0),(1,.v (.int .i64 a)),(2,.v (.int .i64 m)),(3,.v (.int .i64 b)),(4,.fn 78 [] []),(18,.v (.int .i64 (i64.wrap (gD .u64 (u64.wrap (i64.wrap (a+b))) 1)))),(19,.v (.int .i64 (i64.wrap ((i64.wrap (gD .u64 (u64.wrap (i64.wrap (a+b))) 1))+m)))),(20,.v (.int .i64 s_4.1)),(21,.v (.int .i64 s_4.2)),(22,.v (.int .i64 (i64.wrap ((i64.wrap ((i64.wrap (gD .u64 (u64.wrap (i64.wrap (a+b))) 1))+m)) - 1))))],[.row .deed l_]⟩) (nX a m b l_) (kI a m b l_) (l_.length+1) ((bif(decide (m > (i64.wrap (gD .u64 (u64.wrap (i64.wrap (a+b))) 1))))then(i64.wrap ((i64.wrap ((i64.wrap (gD .u64 (u64.wrap (i64.wrap (a+b))) 1))+m)) - b))else a),(bif(decide (m > (i64.wrap (gD .u64 (u64.wrap (i64.wrap (a+b))) 1))))then(i64.wrap (gD .u64 (u64.wrap (i64.wrap (a+b))) 1))else m)) (fun _=>.normal) (fun x_4_0=>⟨[(0,.os 0),(1,.v (.int .i64 a)),(2,.v (.int .i64 m)),(3,.v (.int .i64 b)),(4,.fn 78 [] []),(18,.v (.int .i64 (i64.wrap (gD .u64 (u64.wrap (i64.wrap (a+b))) 1)))),(19,.v (.int .i64 (i64.wrap ((i64.wrap (gD .u64 (u64.wrap (i64.wrap (a+b))) 1))+m)))),(20,.v (.int .i64 x_4_0))],[.row .deed l_]⟩) st)else none),?_,?_⟩
 ·unfold ag Tryz.f135;simp only[ap,true_and,and_true,and_assoc];refine⟨?_,?_,?_,?_,?_⟩
  ·refine eS mixed aC hG kr (fun _=>rfl) fun k_0 s_0 hq0=>⟨L0,ak _,?_⟩
   ·unfold kG at hq0;exact cI (jl [0])
  ·refine eS mixed aC hG kr (fun _=>rfl) fun k_1 s_1 hq1=>⟨L0,ak _,?_⟩
   ·unfold l6 at hq1;exact cI (jl [0])
  ·refine eS mixed aC hG kr (fun _=>rfl) fun k_2 s_2 hq2=>⟨L0,ak _,?_⟩
   ·unfold kH at hq2;exact cI (jl [0])
  ·refine eS mixed aC hG kr (fun _=>rfl) fun k_3 s_3 hq3=>⟨L0,ak _,?_⟩
   ·unfold l7 at hq3;exact cI (jl [0])
  ·refine eS mixed aC hG kr (fun _=>rfl) fun k_4 s_4 hq4=>⟨L0,ak _,?_⟩
   ·unfold kI at hq4;exact cI (jl [0])
 ·unfold ag Tryz.f135;try unfold wY
  exact cI (jl [0])
def jB:Nat->(Int->Int->Int->List Deed->List Deed)×(Int->Int->Int->List Deed->Prop)
 |0=>(fun _ _ _ l=>l,fun _ _ _ _=>False)
 |n+1=>(wY (jB n).1 (jB n).2,mG (jB n).1 (jB n).2)
theorem Ag:∀ n,FnOkO Tryz.prog 135 (wX (jB n).1 (jB n).2)
 |0=>by
  have hG:ConsOk Tryz.prog (mkG [] []):=aV cg0 cg0;refine fo mixed aC hG (fn:=Tryz.f135) (c:=ag Tryz.f135) kr kr kr kr fun l o con h=>?_;obtain⟨⟨a,m,b,l_⟩,rfl,rfl,rfl⟩:=cG h;exact⟨_,_,_,rfl,fun hp=>hp.elim⟩
 |n+1=>HE _ _ (Ag n)
def bN (a:Int)(m:Int)(b:Int)(l_:List Deed):List Deed:=(jB (l_.length+1)).1 a m b l_
def bA (a:Int)(m:Int)(b:Int)(l_:List Deed):Prop:=(jB (l_.length+1)).2 a m b l_
noncomputable def dv:List SV->List Ob->Option HCon:=fq (fun x_:Int×Int×Int×(List Deed) =>[.os 0,.v (.int .i64 x_.1),.v (.int .i64 x_.2.1),.v (.int .i64 x_.2.2.1),.fn 78 [] []]) (fun x_=>[.row .deed x_.2.2.2]) (fun x_=>dK (bA x_.1 x_.2.1 x_.2.2.1 x_.2.2.2) (.tup []) [.row .deed (bN x_.1 x_.2.1 x_.2.2.1 x_.2.2.2)])
@[go_sem] theorem oi (a:Int)(m:Int)(b:Int)(l_:List Deed):dv ([.os 0,.v (.int .i64 a),.v (.int .i64 m),.v (.int .i64 b),.fn 78 [] []]) ([.row .deed l_])=some (dK (bA a m b l_) (.tup []) [.row .deed (bN a m b l_)]):=dM (A:=fun x_:Int×Int×Int×(List Deed) =>[.os 0,.v (.int .i64 x_.1),.v (.int .i64 x_.2.1),.v (.int .i64 x_.2.2.1),.fn 78 [] []]) (H:=fun x_=>[.row .deed x_.2.2.2]) (K:=fun x_=>dK (bA x_.1 x_.2.1 x_.2.2.1 x_.2.2.2) (.tup []) [.row .deed (bN x_.1 x_.2.1 x_.2.2.1 x_.2.2.2)]) (x:=(a,m,b,l_))
theorem ix:FnOkO Tryz.prog 135 dv where
 enter:=fun l h c e=>by
  obtain⟨⟨a,m,b,l_⟩,rfl,rfl,rfl⟩:=cG e;exact(Ag (l_.length+1)).enter _ _ _ (vD _ _ a m b l_)
 calls:=fun l h c e hp=>by
  obtain⟨⟨a,m,b,l_⟩,rfl,rfl,rfl⟩:=cG e;exact(Ag (l_.length+1)).calls _ _ _ (vD _ _ a m b l_) hp
@[go_sem] def aU (n:Int)(k_0:Nat)(s_0:List Deed×Int×Int):(Int×List Deed)⊕(List Deed×Int×Int):=(bif(decide (s_0.2.2<=n))then .inr ((am s_0.2.1 s_0.2.2 s_0.1),s_0.2.2,(i64.wrap (s_0.2.2+20)))else .inl (s_0.2.1,s_0.1))
def bV (n:Int)(k_0:Nat)(s_0:List Deed×Int×Int):Prop:=((decide (s_0.2.2<=n))=true->(aB s_0.2.1 s_0.2.2 s_0.1))
@[go_sem] def bH (n:Int)(s_1:List Deed×Int)(k_2:Nat)(s_2:List Deed×Int×Int):(Int×List Deed)⊕(List Deed×Int×Int):=(bif(decide (s_2.2.2<=n))then .inr ((bN s_2.2.1 (i64.wrap (s_2.2.1+s_1.2)) s_2.2.2 s_2.1),s_2.2.2,(i64.wrap (s_2.2.2+(i64.wrap (2*s_1.2)))))else .inl (s_2.2.1,s_2.1))
def bW (n:Int)(s_1:List Deed×Int)(k_2:Nat)(s_2:List Deed×Int×Int):Prop:=((decide (s_2.2.2<=n))=true->(bA s_2.2.1 (i64.wrap (s_2.2.1+s_1.2)) s_2.2.2 s_2.1))
@[go_sem] def a7 (n:Int)(k_1:Nat)(s_1:List Deed×Int):(List Deed)⊕(List Deed×Int):=letI q0:=i64.wrap (s_1.2*2);(bif(decide (s_1.2<n))then(match aq (bH n s_1) (Int.toNat n+1) 0 (s_1.1,0,(i64.wrap (2*s_1.2)))with| .inl x_2_0=>(bif(decide ((i64.wrap (x_2_0.1+s_1.2)) <n))then .inr ((bN x_2_0.1 (i64.wrap (x_2_0.1+s_1.2)) n x_2_0.2),q0)else .inr (x_2_0.2,q0)) | .inr s_2=>.inr default)else .inl s_1.1)
def bu (n:Int)(k_1:Nat)(s_1:List Deed×Int):Prop:=letI q0:=(s_1.1,0,(i64.wrap (2*s_1.2)));letI q1:=bH n s_1;letI q2:=Int.toNat n+1;((decide (s_1.2<n))=true->(okI q1 (bW n s_1) q2 0 q0/\(∀ z_,aq q1 q2 0 q0≠ .inr z_)/\(∀ x_2_0,aq q1 q2 0 q0=.inl x_2_0->((decide ((i64.wrap (x_2_0.1+s_1.2)) <n))=true->(bA x_2_0.1 (i64.wrap (x_2_0.1+s_1.2)) n x_2_0.2)))))
def bC (n:Int)(l_:List Deed):List Deed:=(match aq (aU n) (Int.toNat n+1) 0 (l_,0,20)with| .inl x_0_0=>(match aq (a7 n) (Int.toNat n+1) 0 ((am x_0_0.1 n x_0_0.2),20)with| .inl x_1_0=>x_1_0| .inr s_1=>default) | .inr s_0=>default)
def be (n:Int)(l_:List Deed):Prop:=letI q0:=aU n;letI q1:=Int.toNat n+1;letI q2:=a7 n;letI q3:=(l_,0,20);(okI q0 (bV n) q1 0 q3/\(∀ z_,aq q0 q1 0 q3≠ .inr z_)/\(∀ x_0_0,aq q0 q1 0 q3=.inl x_0_0->((aB x_0_0.1 n x_0_0.2)/\(okI q2 (bu n) q1 0 ((am x_0_0.1 n x_0_0.2),20)/\(∀ z_,aq q2 q1 0 ((am x_0_0.1 n x_0_0.2),20)≠ .inr z_)))))
noncomputable def dF:List SV->List Ob->Option HCon:=fq (fun x_:Int×(List Deed) =>[.os 0,.v (.int .i64 x_.1),.fn 78 [] []]) (fun x_=>[.row .deed x_.2]) (fun x_=>dK (be x_.1 x_.2) (.tup []) [.row .deed (bC x_.1 x_.2)])
@[go_sem] theorem o5 (n:Int)(l_:List Deed):dF ([.os 0,.v (.int .i64 n),.fn 78 [] []]) ([.row .deed l_])=some (dK (be n l_) (.tup []) [.row .deed (bC n l_)]):=dM (A:=fun x_:Int×(List Deed) =>[.os 0,.v (.int .i64 x_.1),.fn 78 [] []]) (H:=fun x_=>[.row .deed x_.2]) (K:=fun x_=>dK (be x_.1 x_.2) (.tup []) [.row .deed (bC x_.1 x_.2)]) (x:=(n,l_))
theorem iZ:FnOkO Tryz.prog 102 (dF):=by
 have hG:ConsOk Tryz.prog (mkG [] [(134,cK),(135,dv)]):=aV cg0 (cgc gh (cgc ix cg0));refine fo mixed aC hG (fn:=Tryz.f102) (c:=ag Tryz.f102) kr kr kr kr fun l o con h=>?_;obtain⟨⟨n,l_⟩,rfl,rfl,rfl⟩:=cG h;clear h;try dsimp only
 refine⟨_,_,_,rfl,fun hp=>?_⟩;unfold be at hp;refine⟨nbl rfl,(fun id st=>bif Nat.beq id 0 then some (LCV (ρ:=(Int×List Deed)) (σ:=(List Deed×Int×Int)) 1 [] [0] (fun k_0 s_0=>⟨[(0,.os 0),(1,.v (.int .i64 n)),(2,.fn 78 [] []),(6,.v (.int .i64 20)),(7,.v (.int .i64 s_0.2.1)),(8,.v (.int .i64 s_0.2.2))],[.row .deed s_0.1]⟩) (aU n) (bV n) (Int.toNat n+1) (l_,0,20) (fun _=>.normal) (fun x_0_0=>⟨[(0,.os 0),(1,.v (.int .i64 n)),(2,.fn 78 [] []),(6,.v (.int .i64 20)),(7,.v (.int .i64 x_0_0.1))],[.row .deed x_0_0.2]⟩) st)else bif Nat.beq id 2 then some (LCV (ρ:=(List Deed)) (σ:=(List Deed×Int)) 1 [] [0] (fun k_1 s_1=>⟨[(0,.os 0),(1,.v (.int .i64 n)),(2,.fn 78 [] []),(6,.v (.int .i64 s_1.2))],[.row .deed s_1.1]⟩) (a7 n) (bu n) (Int.toNat n+1) ((am (eJ (aq (aU n) (Int.toNat n+1) 0 (l_,0,20))).1 n (eJ (aq (aU n) (Int.toNat n+1) 0 (l_,0,20))).2),20) (fun _=>.normal) (fun x_1_0=>⟨[],[.row .deed x_1_0]⟩) st)else none),?_,?_⟩
 ·unfold ag Tryz.f102;simp only[ap,true_and,and_true,and_assoc];refine⟨?_,?_⟩
  ·refine eS mixed aC hG kr (fun _=>rfl) fun k_0 s_0 hq0=>⟨L0,ak _,?_⟩
   ·unfold bV at hq0;exact cI (jl [0])
  ·refine eS mixed aC hG kr (fun _=>rfl) fun k_1 s_1 hq1=>⟨(fun id st=>bif Nat.beq id 4 then some (LCV (ρ:=(Int×List Deed)) (σ:=(List Deed×Int×Int)) 1 [] [0] (fun k_2 s_2=>⟨[(0,.os 0),(1,.v (.int .i64 n)),(2,.fn 78 [] []),(6,.v (.int .i64 s_1.2)),(7,.v (.int .i64 s_2.2.1)),(8,.v (.int .i64 s_2.2.2))],[.row .deed s_2.1]⟩) (bH n s_1) (bW n s_1) (Int.toNat n+1) (s_1.1,0,(i64.wrap (2*s_1.2))) (fun _=>.normal) (fun x_2_0=>⟨[(0,.os 0),(1,.v (.int .i64 n)),(2,.fn 78 [] []),(6,.v (.int .i64 s_1.2)),(7,.v (.int .i64 x_2_0.1))],[.row .deed x_2_0.2]⟩) st)else none),?_,?_⟩
   ·simp only[ap,true_and,and_true]
    ·refine eS mixed aC hG kr (fun _=>rfl) fun k_2 s_2 hq2=>⟨L0,ak _,?_⟩
     ·unfold bW at hq2;exact cI (jl [0])
   ·unfold bu at hq1;exact cI (jl [0])
 ·unfold ag Tryz.f102;try unfold bC
  exact cI (jl [0])
def aX (l_:List Deed):List Deed:=(bC (l_.length:Int) l_)
def aT (l_:List Deed):Prop:=(l_.length<=bR->(be (l_.length:Int) l_))
noncomputable def cB:List SV->List Ob->Option HCon:=fq (fun x_:(List Deed) =>[.os 0,.fn 78 [] []]) (fun x_=>[.row .deed x_]) (fun x_=>dK (aT x_) (.tup []) [.row .deed (aX x_)])
@[go_sem] theorem l8 (l_:List Deed):cB ([.os 0,.fn 78 [] []]) ([.row .deed l_])=some (dK (aT l_) (.tup []) [.row .deed (aX l_)]):=dM (A:=fun x_:(List Deed) =>[.os 0,.fn 78 [] []]) (H:=fun x_=>[.row .deed x_]) (K:=fun x_=>dK (aT x_) (.tup []) [.row .deed (aX x_)]) (x:=l_)
theorem fP:FnOkO Tryz.prog 77 (cB):=by
 have hG:ConsOk Tryz.prog (mkG [] [(102,dF)]):=aV cg0 (cgc iZ cg0);refine fo mixed aC hG (fn:=Tryz.f77) (c:=ag Tryz.f77) kr kr kr kr fun l o con h=>?_;obtain⟨l_,rfl,rfl,rfl⟩:=cG h;clear h;try dsimp only
 refine⟨_,_,_,rfl,fun hp=>?_⟩;unfold aT at hp;refine⟨nbl rfl,L0,?_,?_⟩
 ·unfold ag Tryz.f77;simp only[ap,and_self,true_and,and_true]
 ·unfold ag Tryz.f77;try unfold aX
  exact cI (jl [0])
end Go.Sx
end
section
namespace Go.Sx
theorem EH {p:Pk}{f:FuncId}{a b:List SV}:og [p] (.fn f a b)=qs p (.fn f a b):=(rfl)
theorem EI {f:FuncId}{a b:List SV}:qs .o (.fn f a b)=.fn f a b:=(rfl)
end Go.Sx
end
section
namespace Go.Sx
open Go.Proofs
def ji (l_:List Deed):Unit:=()
noncomputable def dw:List SV->List Ob->Option HCon:=fq (fun x_:(List Deed) =>[.os 0]) (fun x_=>[.row .deed x_]) (fun x_=>dK True (.fn 103 [] [.ptr 1 0]) [.row .deed x_,.cells [.os 0]])
@[go_sem] theorem oj (l_:List Deed):dw ([.os 0]) ([.row .deed l_])=some (dK True (.fn 103 [] [.ptr 1 0]) [.row .deed l_,.cells [.os 0]]):=dM (A:=fun x_:(List Deed) =>[.os 0]) (H:=fun x_=>[.row .deed x_]) (K:=fun x_=>dK True (.fn 103 [] [.ptr 1 0]) [.row .deed x_,.cells [.os 0]]) (x:=l_)
theorem iy:FnOkO Tryz.prog 79 (dw):=by
 have hG:ConsOk Tryz.prog (mkG [] []):=aV cg0 cg0;refine fo mixed aC hG (fn:=Tryz.f79) (c:=ag Tryz.f79) kr kr kr kr fun l o con h=>?_;obtain⟨l_,rfl,rfl,rfl⟩:=cG h;clear h;try dsimp only
 refine⟨_,_,_,rfl,fun hp=>?_⟩;refine⟨nbl rfl,L0,?_,?_⟩
 ·unfold ag Tryz.f79;simp only[ap,and_self,true_and,and_true]
 ·unfold ag Tryz.f79;try unfold ji
  exact cI (jl [0,1])
@[go_sem] def dq (l_:List Deed)(known:Int)(k_0:Nat)(s_0:List (Int×Bool)):Empty⊕(List (Int×Bool)):=(bif(((l_.getD k_0 default).kind==4)&&(decide ((l_.getD k_0 default).known<=known)))then .inr (fe .int .bool s_0 ((l_.getD k_0 default).of_) true)else .inr s_0)
def ce (l_:List Deed)(hour:Int)(known:Int):List Deed:=(match aq (dq l_ known) l_.length 0 ([])with| .inl x=>x.elim| .inr s_0=>(aX (aK l_ known hour s_0)))
def dB (l_:List Deed)(hour:Int)(known:Int):Prop:=(l_.length<=bR->(∀ s_0,aq (dq l_ known) l_.length 0 ([])=.inr s_0->((l_.length*88<=fY)/\((aN l_ known hour s_0)/\(aT (aK l_ known hour s_0))))))
@[go_sem] def gZ:List SV->Option Con:=(pR .deed fun l_=>(pI fun hour=>(pI fun known=>(pE (.det (dB l_ hour known) (.fn 103 [] [.ep [.rs .deed (ce l_ hour known)] 0]))))))
theorem zq49 {p:Prop}(h:p:=by simp only[go_sem,Nat.reduceBEq,Nat.reduceLeDiff,Nat.reduceLT,decide_true,Nat.reduceAdd,Nat.reduceSub,Nat.reduceMul,Int.reduceLE,Int.reduceLT,Int.reduceToNat,Int.reduceNeg,reduceCtorEq,EH,EI];all_goals exact cl):p:=h
theorem jV:FnOk Tryz.prog 49 gZ:=by
 have hG:ConsOk Tryz.prog (mkG [(40,fun l=>gY (dJ [.sl .deed] l))] [(75,c6),(77,cB),(79,dw)]):=aV (cgc (jU.norm [.sl .deed]) cg0) (cgc gA (cgc fP (cgc iy cg0)));refine cj [.o] mixed aC hG (fn:=Tryz.f49) (c:=ag Tryz.f49) kr kr kr kr (gn fun l_=>(d_ fun hour=>(d_ fun known=>(bw (fun hp=>?_)))));dsimp only[bb]at hp;unfold dB at hp;refine⟨nbl rfl,(fun id st=>bif Nat.beq id 0 then some (LCR (ρ:=Empty) (σ:=(List (Int×Bool))) 4 [] [0,1,2,3] (fun k_0 s_0=>⟨[(0,.rs .deed l_),(4,.ptr 0 0),(5,.ptr 1 0),(7,.ptr 3 0),(11,.rs .deed l_),(12,.v (.int .i64 (l_.length:Int))),(13,.v (.int .i64 (k_0:Int)))],[.cells [.v (.int .i64 hour)],.cells [.v (.int .i64 known)],.mp .int .bool s_0 none,.cells [.os 2]]⟩) (dq l_ known) pT l_.length ([]) (l_.length<=bR) ((·.elim)) ((·.elim)) st)else none),?_,?_⟩
 ·unfold ag Tryz.f49;simp only[ap,true_and,and_true]
  ·refine ew mixed aC hG kr (fun _=>rfl) (l_.length:Int) rfl mT (fun hb0 k_0 s_0 hlt0 _ hw hc=>⟨L0,ak _,?_⟩) (fun hb0 s_0 hc=>?_)
   ·exact dH (jl [0,1,2,3])
   ·exact dI (jl [0,1,2,3])
 ·unfold ag Tryz.f49;try unfold ce
  exact zq49
theorem tX {l0:List Nat}(a0:JL l0){p:Prop}(h:JL l0->p:=by intro ja;(first|done|(repeat' (first|with_reducible refine And.intro ?_ ?_|((with_reducible show _≠_);first|assumption|omega|(simp_all [d7,eJ];done) |grind) |with_reducible intro _)) <;>(first|done|with_reducible exact Empty.elim ‹Empty› |with_reducible assumption|rfl|omega|assumption|decide|exact fk ja|(refine Or.inr ?_;exact fkY ja) |(refine Or.inl ?_;exact fkY ja) |(refine Or.inl ⟨rfl,?_⟩;exact fkY ja) |exact czl|(simp only[*,cond_true,cond_false,Bool.not_true,Bool.not_false,go_sem,Nat.reduceBEq,Nat.reduceLeDiff,Nat.reduceLT,decide_true,Nat.reduceAdd,Nat.reduceSub,Nat.reduceMul,Int.reduceLE,Int.reduceLT,Int.reduceToNat,Int.reduceNeg,reduceCtorEq];(repeat' (first|with_reducible refine And.intro ?_ ?_|((with_reducible show _≠_);first|assumption|omega|(simp_all [d7,eJ];done) |grind) |with_reducible intro _)) <;>(first|done|assumption|rfl|omega|decide|exact fk ja|(refine Or.inr ?_;exact fkY ja) |(refine Or.inl ?_;exact fkY ja) |(refine Or.inl ⟨rfl,?_⟩;exact fkY ja) |(simp_all [d7,eJ];done))) |(exfalso;rename_i h1 h2;rw[h1]at h2;cases h2) |(exfalso;rename_i h1 h2;simp only[h1,Bool.not_false,Bool.not_true,Bool.true_or,Bool.or_true,Bool.false_or,Bool.or_false,reduceCtorEq]at h2;done) |(exfalso;clear hy hG;simp_all;done) |(simp only[*,Sum.inr.injEq,forall_eq',true_implies,forall_const,reduceCtorEq,false_implies,and_true,List.length_append,List.length_cons,List.length_nil,Nat.zero_add,go_sem,Nat.reduceBEq,Nat.reduceLeDiff,Nat.reduceLT,decide_true,Nat.reduceAdd,Nat.reduceSub,Nat.reduceMul,Int.reduceLE,Int.reduceLT,Int.reduceToNat,Int.reduceNeg,reduceCtorEq]at hq2;first|exact hq2.1|exact hq2.2.1|exact hq2|exact hq2.2|(simp only[hq2];done)) |(simp only[*,Sum.inr.injEq,forall_eq',true_implies,forall_const,reduceCtorEq,false_implies,and_true,List.length_append,List.length_cons,List.length_nil,Nat.zero_add,go_sem,Nat.reduceBEq,Nat.reduceLeDiff,Nat.reduceLT,decide_true,Nat.reduceAdd,Nat.reduceSub,Nat.reduceMul,Int.reduceLE,Int.reduceLT,Int.reduceToNat,Int.reduceNeg,reduceCtorEq]at hq1;first|exact hq1.1|exact hq1.2.1|exact hq1|exact hq1.2|(simp only[hq1];done)) |(clear hy hG;simp_all only[d7,eJ,Sum.inr.injEq,forall_eq',true_implies,forall_const,reduceCtorEq,false_implies,and_true,List.length_append,List.length_cons,List.length_nil,Nat.zero_add,go_sem,Nat.reduceBEq,Nat.reduceLeDiff,Nat.reduceLT,decide_true,Nat.reduceAdd,Nat.reduceSub,Nat.reduceMul,Int.reduceLE,Int.reduceLT,Int.reduceToNat,Int.reduceNeg,reduceCtorEq];done) |(simp_all [okI,d7,eJ];done) |(simp_all [d7,eJ];(first|done|exact fk2 ja)) |exact fk2 ja))):p:=h a0
theorem EJ {l0:List Nat}(a0:JL l0){p:Prop}(h:JL l0->p:=by intro ja;simp only[go_sem,Nat.reduceBEq,Nat.reduceLeDiff,Nat.reduceLT,decide_true,Nat.reduceAdd,Nat.reduceSub,Nat.reduceMul,Int.reduceLE,Int.reduceLT,Int.reduceToNat,Int.reduceNeg,reduceCtorEq,hc,hw];all_goals exact tX ja):p:=h a0
theorem EK {l0:List Nat}(a0:JL l0){p:Prop}(h:JL l0->p:=by intro ja;simp only[go_sem,Nat.reduceBEq,Nat.reduceLeDiff,Nat.reduceLT,decide_true,Nat.reduceAdd,Nat.reduceSub,Nat.reduceMul,Int.reduceLE,Int.reduceLT,Int.reduceToNat,Int.reduceNeg,reduceCtorEq,hc];all_goals exact tX ja):p:=h a0
@[go_sem] def rF (x:Deed):List SV:=[.agg (cellsOf .deed x)]
@[go_sem] def bL (l_:List Deed)(k_0:Nat)(s_0:List Deed):Empty⊕(List Deed):=.inr (s_0++[(l_.getD k_0 default)])
def cg (l_:List Deed)(items_:List (List SV))(k_0:Nat)(s_0:List Deed):Prop:=(items_[s_0.length]? =some (rF (l_.getD k_0 default)))
def ax (l_:List Deed):List Deed:=(match aq (bL l_) l_.length 0 ([]:List Deed)with| .inl x=>x.elim| .inr s_0=>s_0)
def bQ (l_:List Deed)(items_:List (List SV)):Prop:=letI q0:=bL l_;(l_.length<=bR->(okI q0 (cg l_ items_) l_.length 0 ([]:List Deed)/\(∀ s_0,aq q0 l_.length 0 ([]:List Deed)=.inr s_0->(items_.length=s_0.length))))
theorem zq50 {l0:List Nat}(a0:JL l0){p:Prop}(h:JL l0->p:=by intro ja;simp only[go_sem,Nat.reduceBEq,Nat.reduceLeDiff,Nat.reduceLT,decide_true,Nat.reduceAdd,Nat.reduceSub,Nat.reduceMul,Int.reduceLE,Int.reduceLT,Int.reduceToNat,Int.reduceNeg,reduceCtorEq];all_goals exact tX ja):p:=h a0
theorem g6 (l_:List Deed)(items_:List (List SV))(hp:bQ l_ items_):z6 Tryz.prog 103 (fun y=>[y,.ep [.rs .deed l_] 0]) [] items_:=by
 unfold bQ at hp;refine Ks mixed aC (fn:=Tryz.f103) (c:=ag Tryz.f103) kr kr kr kr rfl (n:=0) rfl (G:=fun r_=>Ac [] [] (Hw items_ r_)) (fun r_ hy=>?_) (fun args w=>by kernel_rfl);have hG:ConsOk Tryz.prog (Ac [] [] (Hw items_ r_)):=Bk cg0 cg0 hy;refine⟨hG,nbl rfl,(fun id st=>bif Nat.beq id 0 then some (LCY (ρ:=Empty) (σ:=(List Deed)) 1 [] [0] (fun k_0 s_0=>⟨[(0,.os 0),(5,.rs .deed l_),(6,.v (.int .i64 (l_.length:Int))),(7,.v (.int .i64 (k_0:Int)))],[.ab (r_.1 (s_0.length+1))]⟩) (bL l_) (cg l_ items_) l_.length ([]:List Deed) (l_.length<=bR) ((·.elim)) ((·.elim)) ⟨[],[.ab (r_.1 0)]⟩ st)else none),?_,?_⟩
 ·unfold ag Tryz.f103;simp only[ap,true_and,and_true]
  ·refine Ez mixed aC hG kr (fun _=>rfl) (l_.length:Int) rfl mT (fun hb0 k_0 s_0 hlt0 hq0 hw hc=>⟨L0,ak _,?_⟩) (fun hb0 s_0 hc=>?_)
   ·unfold cg at hq0;try simp only[hw,Int.toNat_natCast]at hq0
    exact EJ (jl [0])
   ·exact EK (jl [0])
 ·unfold ag Tryz.f103;exact zq50 (jl [0])
@[go_sem] theorem Qz {f:FuncId}:qw (.fn f [] [])=some [.fn f [] []]:=(rfl)
theorem qX {κ υ:Type}[DecidableEq κ](l:List (κ×υ))(x z:κ)(y:υ):eI (pa l x y) z=if z=x then some y else eI l z:=by
 induction l with
 |nil=>simp[pa,eI]
 |cons a r ih=>
  obtain⟨a,b⟩:=a;unfold pa;by_cases h:x=a
  ·subst h;simp only[if_pos];unfold eI;by_cases hz:z=x <;>simp[hz]
  ·rw[if_neg h];unfold eI;by_cases hz:z=a
   ·subst hz;rw[if_pos rfl,if_neg (fun e=>h e.symm),if_pos rfl]
   ·rw[if_neg hz,ih,if_neg hz]
def dz:List (Int×(Option Nat)):=(fe .int .fnc (fe .int .fnc (fe .int .fnc ([]) 1 (some 98)) 2 (some 99)) 3 (some 100))
@[go_sem] def l9:List SV->Option Con:=(pE (.det True (.nm .int .fnc (dz))))
theorem p_:FnOk Tryz.prog 73 l9:=by
 have hG:ConsOk Tryz.prog (mkG [] []):=aV cg0 cg0;refine qW [] mixed aC hG (fn:=Tryz.f73) (c:=ag Tryz.f73) kr kr kr kr (bw (fun hp=>?_));dsimp only[bb]at hp;refine⟨nbl rfl,L0,ak _,?_⟩
 ·unfold ag Tryz.f73;try unfold dz
  exact zq1
theorem ma (k:Int):dG .int .fnc dz k=bif k==1 then some 98 else bif k==2 then some 99 else bif k==3 then some 100 else none:=by
 by_cases h1:k=1
 ·subst h1;rfl
 by_cases h2:k=2
 ·subst h2;rfl
 by_cases h3:k=3
 ·subst h3;rfl
 have e1:(k==1)=false:=by simpa using h1
 have e2:(k==2)=false:=by simpa using h2
 have e3:(k==3)=false:=by simpa using h3
 rw[e1,e2,e3];simp only[dz,dG,fe,qX,if_neg h1,if_neg h2,if_neg h3];rfl
end Go.Sx
end

import Derived.Test.YtalpfcaakpgkmaaGreatDoorR05
import Derived.Laws.Rows
import Derived.Laws.IdiomCopy
import Derived.Deep.OwnRows
import Derived.Laws.ResultCell
namespace Go.Proofs.YtalpfcaakpgkmaaGreatDoor
open Go.RowKit
def zG(w:World)(b:Nat)(c:Array Value)(t:TypeId):Prop:=w.heap[b]? = some (.cells c t (0,0))
section
variable {w w':World}{b:Nat}{c:Array Value}{t:TypeId}{F:NP}
theorem zG.lt(h:zG w b c t):b<w.heap.size:=(tC.1 h).1
theorem zG.cell(h:zG w b c t){o:Nat}{v:Value}(hv:c[o]? = some v):w.cell? ⟨b,o,none⟩=some v:=by rw[qS h];exact hv
theorem zG.k(h:zG w b c t)(o:Nat){v:Value}(hv:c[o]? = some v):w.cell? ⟨b,o,none⟩=some v:=h.cell hv
theorem zG.d(h:zG w b c t)(o:Nat)(v:Value)(hv:c[o]? = some v):w.cell? ⟨b,o,none⟩=some v:=h.cell hv
theorem zG.frozen(h:zG w b c t)(o:Nat):w.frozen? ⟨b,o,none⟩=false:=by
 unfold World.frozen?;have:w.heap[b]? = some (.cells c t (0,0)):=h;simp only[this];simp
theorem zG.mods(h:zG w b c t)(m:zA F w w')(hb:¬ F b):zG w' b c t:=(m.block b h.lt hb).trans h
theorem zG.ext(h:zG w b c t)(m:zF w w'):zG w' b c t:=h.mods m (λf=>f)
theorem zG.set(h:zG w b c t)(i:Nat)(v:Value):zG (w.setCell ⟨b,i,none⟩ v) b (c.setIfInBounds i v) t:=heap_setCell_same w b i c t v h
theorem zG.set_other(h:zG w b c t){p:Addr}(hp:b≠p.block)(v:Value):zG (w.setCell p v) b c t:=(heap_setCell_other w p b v hp).trans h
theorem zG.new(w:World)(c:Array Value)(t:TypeId):zG (w.alloc (.cells c t)) w.heap.size c t:=heap_alloc_new w _
theorem zG.alloc(h:zG w b c t)(o:Obj):zG (w.alloc o) b c t:=h.ext ((zss w).alloc o)
theorem zG.drew(h:zG w b c t):zG w.drew b c t:=h
theorem zA.at(F:NP)(w:World)(b i:Nat)(v:Value)(hb:F b):zA F w (w.setCell ⟨b,i,none⟩ v):=(zA.refl F w).setCell (.inr hb) v
end
theorem zI4(z:Value)(n:Nat):madeCells #[z] n=(List.replicate n z).toArray:=by
 apply Array.ext
 .simp[madeCells]
 .intro i h1 h2;simp[madeCells,Nat.mod_one]
theorem zHy{P:Program}(t e:TypeId)(z:Value)(bytes:Nat)(ht:P.underlying t=some (.slice e))(A1:(P.info? e).map (λi=>(i.zero,i.size,i.bytes))=some (some z,1,bytes))(A7:z.cells=#[z])
  (n:Nat) (A0:bytes * n<=281474976710656) (A8:n<=9223372036854775807) (w:World) :
  (Instr.makeSlice t (.int .i64 (n:Int)) (.int .i64 (n:Int))).run P w=.ok (.slice (some ⟨w.heap.size,0,none⟩) n n) (w.alloc (.cells (Array.replicate n z) e)):=by
 rw[run_make_row' t e z bytes ht A1 A7 .i64 .i64 n A0 A8 w,zI4,List.toArray_replicate]
def Bd(F:NP)(w:World):Prop:=∀k,F k->k<w.heap.size
theorem Bd.new{F:NP}{w:World}(h:Bd F w):¬ F w.heap.size:=λf=>pB _ (h _ f)
theorem Bd.mods{F G:NP}{w w':World}(h:Bd F w)(m:zA G w w'):Bd F w':=λk hk=>uF (h k hk) m.size
theorem yC.empty{α:Type}{F:NP}{w:World}(h:Bd F w)(e:TypeId)(sz:Nat)(enc:α->List Value)(A6:∀x,(enc x).length=sz) :
  yC F (w.alloc (.cells #[] e)) w.heap.size e sz enc (.slice (some ⟨w.heap.size,0,none⟩) 0 0) ([]:List α) :=
 yC.made (l:=([]:List α)) (cur:=#[]) (heap_alloc_new w _) (uD _) h.new (uD _) (by simp[maxLen]) (by simp) (by simp) A6
theorem zA.past{w0 w w':World}(h:zF w0 w)(m:zA (λk=>w0.heap.size<=k) w w'):zF w0 w':=h.trans' m (λi hi hg=>by omega)
theorem Sl.ext{α:Type}{F:NP}{w w':World}{sz:Nat}{enc:α->List Value}{v:Value}{l:List α}(h:Sl F w sz enc v l)(m:zF w w'):Sl F w' sz enc v l:=h.mods m.ext
structure ElT(P:Program)(t e:TypeId)(z:Value)(sz bytes:Nat):Prop where
 under:P.underlying t=some (.slice e)
 info:(P.info? e).map (λi=>(i.zero,i.size,i.bytes))=some (some z,sz,bytes)
 zs:z.cells.size=sz
 sz0:0<sz
 by0:0<bytes
structure zCx{α:Type}(enc:α->List Value)(sz:Nat):Prop where
 len:∀x,(enc x).length=sz
 one:∀x,∀u∈enc x,u.oneCell'=true
theorem jN:zCx zZ 1:=⟨λ_=>rfl,by intro x u hu;simp[zZ] at hu;subst hu;rfl⟩
theorem vH:zCx yI 1:=⟨λ_=>rfl,by intro x u hu;simp[yI] at hu;subst hu;rfl⟩
theorem zFO{P:Program}{e:TypeId}{z:Option Value}{s b:Nat}(h:(P.info? e).map (λi=>(i.zero,i.size,i.bytes))=some (z,s,b)):∃i,P.info? e=some i/\i.zero=z/\i.size=s/\i.bytes=b:=by
 obtain⟨i,hi,A5⟩:=rA.1 h;simp only[Prod.mk.injEq] at A5;exact⟨i,hi,A5.1,A5.2.1,A5.2.2⟩
theorem zCS{P:Program}{α:Type}{F G:NP}{w:World}{t e:TypeId}{z:Value}{sz bytes:Nat}{enc:α->List Value}(T:ElT P t e z sz bytes)(E:zCx enc sz)
  {ops:Array Oper} {rest:List Oper} {o:Oper} {a:Act} {Q:Exit->Act->World->Prop} (A9:o.guard=none) (sx x:Operand)
  (ho:o.op=.call { callee:=.builtin .append,args:=#[sx,x],argTypes:=#[t,t] })
  (base:Nat) (v s:Value) (l m:List α) (hv:a.eval sx=v) (hx:a.eval x=s) (A2:yC F w base e sz enc v l) (hs:Sl G w sz enc s m) (hb:(l.length+m.length) * bytes<=140737488355328) (A3:base<=w.heap.size) (hn:Bd F w)
  (h:∀a' c' w',yC F w' base e sz enc (.slice a' (l.length+m.length) c') (l++m)->zA (λk=>base<=k) w w'->wpList P ops Q rest (a.put o.dst (.slice a' (l.length+m.length) c')) w') :
  wpList P ops Q (o :: rest) a w:=by
 obtain⟨i,hi,hz,Aa,Ab⟩:=zFO T.info;refine zFN A9 sx x t ho base e i z sz bytes T.under hi hz Aa Ab T.zs T.sz0 enc E.len E.one v s l m hv hx A2 hs hb T.by0 A3 hn.new ?_;intro a' c' w' h1 h2 _;exact h a' c' w' h1 ((zA.of_grown h2).mono (λk hk=>(A2.lt k hk).1))
theorem zF3{F:NP}{w:World}(h:Bd F w)(q:Nat)(t:TypeId):Sl F (w.alloc (.cells #[.int .u8 ((q:Int) % 256)] t)) 1 zZ (.slice (some ⟨w.heap.size,0,none⟩) 1 1) [UInt8.ofNat q]:=by
 refine Sl.one (t:=t) (fz:=(0,0)) ?_ h.new;have:(zZ (UInt8.ofNat q)).toArray=#[.int .u8 ((q:Int) % 256)]:=by simp[zZ]
 rw[this];exact zS rfl
theorem yC.rebase{α:Type}{F:NP}{w:World}{base base':Nat}{e:TypeId}{sz:Nat}{enc:α->List Value}{v:Value}{l:List α}(h:yC F w base e sz enc v l)(hb:base'<=base):yC F w base' e sz enc v l:=by
 refine⟨⟨h.1.1,?_⟩,h.2⟩;rcases h.1.2 with h0|⟨g,cap,cur,rfl,Ac,hg,r⟩
 .exact .inl h0
 .exact .inr ⟨g,cap,cur,rfl,uP hb Ac,hg,r⟩
theorem zG.set4{w:World}{R:Nat}{t:TypeId}{a0 a1 a2 a3:Value}(h:zG w R #[a0,a1,a2,a3] t)(v0 v1 v2 v3:Value) :
  zG ((((w.setCell ⟨R,0,none⟩ v0).setCell ⟨R,1,none⟩ v1).setCell ⟨R,2,none⟩ v2).setCell ⟨R,3,none⟩ v3) R #[v0,v1,v2,v3] t:=by
 simpa using (((h.set 0 v0).set 1 v1).set 2 v2).set 3 v3
theorem zA.set4{F:NP}{w w':World}(m:zA F w w'){R:Nat}(hR:w.heap.size<=R\/F R)(v0 v1 v2 v3:Value) :
  zA F w ((((w'.setCell ⟨R,0,none⟩ v0).setCell ⟨R,1,none⟩ v1).setCell ⟨R,2,none⟩ v2).setCell ⟨R,3,none⟩ v3) :=
 (((m.setCell (p:=⟨R,0,none⟩) hR _).setCell (p:=⟨R,1,none⟩) hR _).setCell (p:=⟨R,2,none⟩) hR _).setCell (p:=⟨R,3,none⟩) hR _
theorem zC{P:Program}{fn:Func}{p u:Tmp}{ty:TypeId}(h:fn.results=#[.cell p ty,.tmp u])(tmps:Array Value)(w:World)(g:Nat)(t:TypeId)(cs:Array Value)(d:TypeDesc)
  (hp:tmps.getD p undef=.pointer (some ⟨g,0,none⟩)) (hg:zG w g cs t)
  (hu:P.underlying ty=some d) (hd:(match d with | .struct _ | .array _ _=>true|_=>false)=true) (hi:(P.info? ty).map (·.size)=some cs.size) :
  (results fn tmps).run P w=.ok (.tuple #[.agg cs,tmps.getD u undef]) w:=by
 rw[results_cell_tmp h,hp];have hg':w.heap[g]? = some (.cells cs t (0,0)):=hg;simp[asAddr,run_loadVar_row w g t ty cs (0,0) d hg' hu hd hi]
variable {F:NP}{w w':World}
theorem Sl.elem{α:Type}{sz:Nat}{enc:α->List Value}{p:Option Addr}{n cp:Nat}{x:List α}(h:Sl F w sz enc (.slice p n cp) x){k:Nat}(hk:k<x.length)(m:zF w w') :
  ∃b off,p=some ⟨b,off,none⟩/\∀j u,(enc x[k])[j]? = some u->w'.cell? ⟨b,off+k * sz+j,none⟩=some u:=by
 obtain⟨_,_,he,_,_,_,A4⟩:=h;injection he with he _ _;subst he;obtain⟨b,off,rfl,_,_,hc⟩:=Sl.at A4 m (λ_ _ f=>f.elim) k hk;exact⟨b,off,rfl,hc⟩
theorem Sl.elemM{α:Type}{sz:Nat}{enc:α->List Value}{p:Option Addr}{n cp:Nat}{x:List α}(h:Sl F w sz enc (.slice p n cp) x){k:Nat}(hk:k<x.length)(m:zA F w w') :
  ∃b off,p=some ⟨b,off,none⟩/\∀j u,(enc x[k])[j]? = some u->w'.cell? ⟨b,off+k * sz+j,none⟩=some u:=by
 obtain⟨_,_,he,_,_,_,A4⟩:=h;injection he with he _ _;subst he;obtain⟨b,off,rfl,_,_,hc⟩:=Sl.at A4 m (λ_ _ f=>f) k hk;exact⟨b,off,rfl,hc⟩
theorem Sl.elemF{α:Type}{sz:Nat}{enc:α->List Value}{p:Option Addr}{n cp:Nat}{x:List α}(h:Sl F w sz enc (.slice p n cp) x){k:Nat}(hk:k<x.length) :
  ∃b off,p=some ⟨b,off,none⟩/\¬ F b/\∀j u,(enc x[k])[j]? = some u->w.cell? ⟨b,off+k * sz+j,none⟩=some u:=by
 obtain⟨_,_,he,_,_,_,A4⟩:=h;injection he with he _ _;subst he;obtain⟨b,off,rfl,_,hF,hc⟩:=Sl.at A4 (zA.refl F w) (λ_ _ f=>f) k hk;exact⟨b,off,rfl,hF,hc⟩
end Go.Proofs.YtalpfcaakpgkmaaGreatDoor

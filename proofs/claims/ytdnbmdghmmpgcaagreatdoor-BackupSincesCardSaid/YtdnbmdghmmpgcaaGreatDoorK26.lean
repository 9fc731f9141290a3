import Derived.Test.YtdnbmdghmmpgcaaGreatDoorK25
import Derived.Deep.RegionHeld3
namespace Go.Proofs.YtdnbmdghmmpgcaaGreatDoor
open Lib renaming hid→oh
set_option maxRecDepth 100000
section
open Go.RowKit
theorem Tryz.mkE:(Tryz.prog.info? 281).map (λi=>(i.zero,i.size,i.bytes))=some (some (.agg #[.string ⟨#[]⟩,.string ⟨#[]⟩,.int .i64 0,.int .i64 0]),4,48):=by kernel_rfl
theorem Tryz.mkS:(Tryz.prog.info? 9).map (λi=>(i.zero,i.size,i.bytes))=some (some (.string ⟨#[]⟩),1,16):=by kernel_rfl
theorem Tryz.elE:ElT Tryz.prog 270 281 (.agg #[.string ⟨#[]⟩,.string ⟨#[]⟩,.int .i64 0,.int .i64 0]) 4 48:=⟨Tryz.underlying270,Tryz.mkE,rfl,by decide,by decide⟩
theorem Tryz.elS:ElT Tryz.prog 64 9 (.string ⟨#[]⟩) 1 16:=⟨Tryz.underlying64,Tryz.mkS,rfl,by decide,by decide⟩
theorem encE_ok:EncOk encE 4:=⟨λ_=>rfl,by intro x u hu;simp[encE] at hu;rcases hu with rfl|rfl|rfl|rfl <;> rfl⟩
theorem encS_ok:EncOk encS 1:=⟨λ_=>rfl,by intro x u hu;simp[encS] at hu;subst hu;rfl⟩
theorem step_app2{P:Program}{α:Type}{F G:Nat→Prop}{w:World}{t e:TypeId}{z:Value}{sz bytes:Nat}{enc:α→List Value}(T:ElT P t e z sz bytes)(E:EncOk enc sz)
  {ops:Array Oper} {o:Oper} {a:Act} {K:Act→World→Prop} {Q:Exit→Act→World→Prop} {X:Prop} (hgd:o.guard=none) (sx x:Operand)
  (ho:o.op=.call { callee:=.builtin .append,args:=#[sx,x],argTypes:=#[t,t] })
  (base:Nat) (v s:Value) (l m:List α) (hv:a.eval sx=v) (hx:a.eval x=s) (hown:Own F w base e sz enc v l) (hs:Sl G w sz enc s m) (hb:(l.length+m.length) * bytes≤140737488355328) (hbase:base≤w.heap.size) (hn:¬ F w.heap.size)
  (h:∀a' c' w',Own F w' base e sz enc (.slice a' (l.length+m.length) c') (l++m)→Mods (λk=>v.ownBlock=some k) w w' →
   ((Value.slice a' (l.length+m.length) c').ownBlock=v.ownBlock∨(Value.slice a' (l.length+m.length) c').ownBlock=some w.heap.size)→K (a.put o.dst (.slice a' (l.length+m.length) c')) w') :
  if Region.wanted o (yielded ops a.tmps)=true then Oper.wp P o a w K Q else X:=by
 have hw:Region.wanted o (yielded ops a.tmps)=true:=by simp[Region.wanted,hgd]
 rw[if_pos hw];obtain⟨i,hi,hz,hs1,hb1⟩:=info3 T.info;obtain⟨a',c',w',hr,h2,h3,h4⟩:=run_append_sl (P:=P) (F:=F) (G:=G) (w:=w) base t o.type e i z sz bytes T.under hi hz hs1 hb1 T.zs T.sz0 enc E.len E.one v s l m hown hs hb T.by0 hbase hn;unfold Oper.wp execOp;simp only[ho,resolve,invoke,builtin,Sem.run_bind,Sem.run_pure,Result.andThen_ok,List.map_toArray,List.map_cons,List.map_nil,hv,hx,hr];exact h a' c' w' h2 (Mods.of_grown h3) h4
theorem Own.far{α β:Type}{F G:Nat→Prop}{w:World}{base base':Nat}{e e':TypeId}{sz sz':Nat}{enc:α→List Value}{enc':β→List Value}{v v':Value}{x:List α}{x':List β}(h:Own F w base e sz enc v x)(h':Own G w base' e' sz' enc' v' x')(hne:e≠e'):∀g,v.ownBlock=some g→v'.ownBlock≠some g:=by
 intro g hg hg';rcases h'.1.2 with ⟨rfl,_⟩|⟨g',cap,cur,rfl,_,h2,_⟩
 ·simp[Value.ownBlock] at hg'
 ·simp[Value.ownBlock] at hg';subst hg';exact Own.notB h (B:=g') (c:=cur) (t:=e') h2 hne.symm g' hg rfl
def GB(F:Nat→Prop)(w:World):Nat→Prop:=λk=>F k∨(w.heap.size≤k∧k<w.heap.size+2)
def NoF:Nat→Prop:=λ_=>False
structure GetS(F:Nat→Prop)(ad:Nat→Addr)(w wr:World)(lf:Bool)(bv:Value)(b:List UInt8)(r:RdA)(es:List EntryA)(ks:List ByteArray)(is:List Int)(ve vk vi s1 s2 s3:Value):Prop where
 ext:Ext w wr
 env0:Env F ad w
 sl0:Sl F w 1 encB bv b
 box:Blk wr (w.heap.size+1) #[bv,.int .i64 r.at_,.bool r.bad] 410
 nd:Blk wr (w.heap.size+1+1) #[.bool lf,s1,s2,s3] 272
 oe:Own NoF wr (w.heap.size+3) 281 4 encE ve es
 ok:Own NoF wr (w.heap.size+3) 9 1 encS vk ks
 oi:Own NoF wr (w.heap.size+3) 3 1 encI vi is
 res:Blk wr w.heap.size #[.bool false,.slice none 0 0,.slice none 0 0,.slice none 0 0] 272
section
variable {F:Nat→Prop}{ad:Nat→Addr}{w wr w2:World}{lf:Bool}{bv:Value}{b:List UInt8}{r r':RdA}{es es':List EntryA}{ks ks':List ByteArray}{is is':List Int}{ve vk vi s1 s2 s3 ve' vk' vi':Value}
theorem GetS.base(h:GetS F ad w wr lf bv b r es ks is ve vk vi s1 s2 s3):w.heap.size+3≤wr.heap.size:=by have:=h.nd.lt;omega
theorem GetS.env(h:GetS F ad w wr lf bv b r es ks is ve vk vi s1 s2 s3):Env (GB F w) ad wr :=
 h.env0.step h.ext.ext (λk hk hn hg=>hg.elim hn (λe=>by omega)) (λk hg=>hg.elim (λhf=>Nat.lt_of_lt_of_le (h.env0.lt k hf) h.ext.size) (λe=>by have:=h.base;omega))
theorem GetS.rd(h:GetS F ad w wr lf bv b r es ks is ve vk vi s1 s2 s3):RdR (GB F w) wr (w.heap.size+1) bv b r :=
 ⟨h.box,h.sl0.step h.ext.ext (λk hk hn hg=>hg.elim hn (λe=>by omega)),.inr ⟨by omega,by omega⟩⟩
theorem GetS.step(h:GetS F ad w wr lf bv b r es ks is ve vk vi s1 s2 s3)(m:Ext wr w2):GetS F ad w w2 lf bv b r es ks is ve vk vi s1 s2 s3 :=
 ⟨h.ext.trans m,h.env0,h.sl0,h.box.ext m,h.nd.ext m,h.oe.ext m,h.ok.ext m,h.oi.ext m,h.res.ext m⟩
theorem GetS.drew(h:GetS F ad w wr lf bv b r es ks is ve vk vi s1 s2 s3):GetS F ad w wr.drew lf bv b r es ks is ve vk vi s1 s2 s3:=h.step (Mods.refl _ wr).drew
theorem GetS.read(h:GetS F ad w wr lf bv b r es ks is ve vk vi s1 s2 s3)(m:Mods (λk=>k=w.heap.size+1) wr w2)(g:RdR (GB F w) w2 (w.heap.size+1) bv b r'):GetS F ad w w2 lf bv b r' es ks is ve vk vi s1 s2 s3 :=
 ⟨Mods.past h.ext (m.mono (λk (hk:k=w.heap.size+1)=>by omega)),h.env0,h.sl0,g.own,h.nd.mods m (by omega),
  h.oe.mods m (λg hg=>by have:=h.oe.lt g hg;omega),h.ok.mods m (λg hg=>by have:=h.ok.lt g hg;omega),h.oi.mods m (λg hg=>by have:=h.oi.lt g hg;omega),h.res.mods m (by omega)⟩
theorem GetS.row(h:GetS F ad w wr lf bv b r es ks is ve vk vi s1 s2 s3){G:Nat→Prop}(hG:∀k,G k→w.heap.size+3≤k)(m:Mods G wr w2)
  (oe:Own NoF w2 (w.heap.size+3) 281 4 encE ve' es') (ok:Own NoF w2 (w.heap.size+3) 9 1 encS vk' ks') (oi:Own NoF w2 (w.heap.size+3) 3 1 encI vi' is'):GetS F ad w w2 lf bv b r es' ks' is' ve' vk' vi' s1 s2 s3:=by
 have hn:∀k,k<w.heap.size+3→¬ G k:=λk hk g=>by have:=hG k g;omega
 exact⟨Mods.past h.ext (m.mono (λk hk=>by have:=hG k hk;omega)),h.env0,h.sl0,h.box.mods m (hn _ (by omega)),h.nd.mods m (hn _ (by omega)),oe,ok,oi,h.res.mods m (hn _ (by omega))⟩
theorem GetS.appE(h:GetS F ad w wr lf bv b r es ks is ve vk vi s1 s2 s3)(m:Mods (λk=>ve.ownBlock=some k) wr w2)(oe:Own NoF w2 (w.heap.size+3) 281 4 encE ve' es'):GetS F ad w w2 lf bv b r es' ks is ve' vk vi s1 s2 s3 :=
 h.row (λk hk=>(h.oe.lt k hk).1) m oe (h.ok.mods m (λg hg e=>h.ok.far h.oe (by decide) g hg e)) (h.oi.mods m (λg hg e=>h.oi.far h.oe (by decide) g hg e))
theorem GetS.appK(h:GetS F ad w wr lf bv b r es ks is ve vk vi s1 s2 s3)(m:Mods (λk=>vk.ownBlock=some k) wr w2)(ok:Own NoF w2 (w.heap.size+3) 9 1 encS vk' ks'):GetS F ad w w2 lf bv b r es ks' is ve vk' vi s1 s2 s3 :=
 h.row (λk hk=>(h.ok.lt k hk).1) m (h.oe.mods m (λg hg e=>h.oe.far h.ok (by decide) g hg e)) ok (h.oi.mods m (λg hg e=>h.oi.far h.ok (by decide) g hg e))
theorem GetS.appI(h:GetS F ad w wr lf bv b r es ks is ve vk vi s1 s2 s3)(m:Mods (λk=>vi.ownBlock=some k) wr w2)(oi:Own NoF w2 (w.heap.size+3) 3 1 encI vi' is'):GetS F ad w w2 lf bv b r es ks is' ve vk vi' s1 s2 s3 :=
 h.row (λk hk=>(h.oi.lt k hk).1) m (h.oe.mods m (λg hg e=>h.oe.far h.oi (by decide) g hg e)) (h.ok.mods m (λg hg e=>h.ok.far h.oi (by decide) g hg e)) oi
theorem GetS.far(h:GetS F ad w wr lf bv b r es ks is ve vk vi s1 s2 s3){X:Nat}(hX:w.heap.size+3≤X)(m:Mods (λk=>k=X) wr w2)(he:ve.ownBlock≠some X)(hk:vk.ownBlock≠some X)(hi:vi.ownBlock≠some X):GetS F ad w w2 lf bv b r es ks is ve vk vi s1 s2 s3 :=
 h.row (G:=λk=>k=X) (λk hk=>by omega) m (h.oe.mods m (λg hg e=>he (by rw[hg,e]))) (h.ok.mods m (λg hg e=>hk (by rw[hg,e]))) (h.oi.mods m (λg hg e=>hi (by rw[hg,e])))
theorem GetS.slE(h:GetS F ad w wr lf bv b r es ks is ve vk vi s1 s2 s3){G:Nat→Prop}(hG:∀k,G k→k<w.heap.size+3)(hl:es.length≤140737488355328):Sl G wr 4 encE ve es :=
 Own.sl (F:=G) ⟨h.oe.1,λg hg f=>by have:=h.oe.lt g hg;have:=hG g f;omega⟩ encE_ok.len hl
theorem GetS.slK(h:GetS F ad w wr lf bv b r es ks is ve vk vi s1 s2 s3){G:Nat→Prop}(hG:∀k,G k→k<w.heap.size+3)(hl:ks.length≤140737488355328):Sl G wr 1 encS vk ks :=
 Own.sl (F:=G) ⟨h.ok.1,λg hg f=>by have:=h.ok.lt g hg;have:=hG g f;omega⟩ encS_ok.len hl
theorem GetS.slI(h:GetS F ad w wr lf bv b r es ks is ve vk vi s1 s2 s3){G:Nat→Prop}(hG:∀k,G k→k<w.heap.size+3)(hl:is.length≤140737488355328):Sl G wr 1 encI vi is :=
 Own.sl (F:=G) ⟨h.oi.1,λg hg f=>by have:=h.oi.lt g hg;have:=hG g f;omega⟩ encI_ok.len hl
theorem GetS.gb(h:GetS F ad w wr lf bv b r es ks is ve vk vi s1 s2 s3):∀k,GB F w k→k<w.heap.size+3:=λk hk=>hk.elim (λhf=>by have:=h.env0.lt k hf;omega) (λe=>by omega)
theorem GetS.put(h:GetS F ad w wr lf bv b r es ks is ve vk vi s1 s2 s3)(i:Nat)(v t1 t2 t3:Value)(e:(#[.bool lf,s1,s2,s3]:Array Value).setIfInBounds i v=#[.bool lf,t1,t2,t3]):GetS F ad w (wr.setCell ⟨w.heap.size+1+1,i,none⟩ v) lf bv b r es ks is ve vk vi t1 t2 t3:=by
 have m:Mods (λk=>k=w.heap.size+1+1) wr (wr.setCell ⟨w.heap.size+1+1,i,none⟩ v):=Mods.at _ wr _ i v rfl;have hn:=h.nd.set i v;rw[e] at hn;exact⟨Mods.past h.ext (m.mono (λk (hk:k=w.heap.size+1+1)=>by omega)),h.env0,h.sl0,h.box.mods m (by omega),hn,
  h.oe.mods m (λg hg=>by have:=h.oe.lt g hg;omega),h.ok.mods m (λg hg=>by have:=h.ok.lt g hg;omega),h.oi.mods m (λg hg=>by have:=h.oi.lt g hg;omega),h.res.mods m (by omega)⟩
theorem GetS.text(h:GetS F ad w wr lf bv b r es ks is ve vk vi s1 s2 s3)(h0:0≤r.at_)(h1:r.at_≤1000000000000)(s:ByteArray)(hx:rdText b r=(s,r')) :
  Calls Tryz.prog 274 #[.pointer (some ⟨w.heap.size+1,0,none⟩)] wr λe w'=>e=.returned (.string s)∧GetS F ad w w' lf bv b r' es ks is ve vk vi s1 s2 s3∧Mods (λk=>k=w.heap.size+1) wr w':=by
 have:=rdText_any h.env h.rd h0 h1;rw[hx] at this;exact this.mono λe w' ⟨a1,a2,a3⟩=>⟨a1,h.read a3 a2,a3⟩
theorem GetS.num(h:GetS F ad w wr lf bv b r es ks is ve vk vi s1 s2 s3)(W:Nat)(hW:W=1∨W=2∨W=4)(h0:0≤r.at_)(h1:r.at_≤1000000000000)(n:Nat)(hx:rdNum b r W=(n,r')) :
  Calls Tryz.prog 273 #[.pointer (some ⟨w.heap.size+1,0,none⟩),.int .i64 (W:Int)] wr λe w'=>e=.returned (.int .i64 (n:Int))∧GetS F ad w w' lf bv b r' es ks is ve vk vi s1 s2 s3∧Mods (λk=>k=w.heap.size+1) wr w' :=
 (rdNum_to h.env h.rd W hW h0 h1 n r' hx).mono λ_ _ ⟨a1,a2,a3⟩=>⟨a1,h.read a3 a2,a3⟩
end
theorem Sl.slc{α:Type}{F:Nat→Prop}{w:World}{sz:Nat}{enc:α→List Value}{a:Option Addr}{n c:Nat}{l:List α}(h:Sl F w sz enc (.slice a n c) l)(i j:Nat)(hij:i≤j)(hj:j≤n) :
  Sl F w sz enc (.slice (if c=i then a else a.map (·.add (i * sz))) (j-i) (c-i)) ((l.drop i).take (j-i)):=by
 obtain⟨a',cap,he,h1,h2,h3,h4⟩:=h;simp only[Value.slice.injEq] at he;obtain⟨rfl,rfl,rfl⟩:=he;have hlen:((l.drop i).take (j-i)).length=j-i:=by simp[List.length_take,List.length_drop];omega
 refine⟨_,c-i,by rw[hlen],by rw[hlen];omega,by omega,by rw[hlen];omega,?_⟩;rcases h4 with rfl|⟨b,off,rfl,hb,hF,hc⟩
 ·exact .inl (by simp)
 ·by_cases hz:c=i
  ·exact .inl (List.eq_nil_of_length_eq_zero (by rw[hlen];omega))
  ·refine .inr ⟨b,off+i * sz,?_,hb,hF,λk x hk q u hu=>?_⟩
   ·rw[if_neg hz];simp only[Option.map_some,Addr.add];by_cases h0:i * sz=0
    ·rw[if_pos h0,h0];rfl
    ·rw[if_neg h0]
   ·have hk1:k<j-i:=by
     have:=(List.getElem?_eq_some_iff.1 hk).1;rwa [hlen] at this
    rw[List.getElem?_take_of_lt hk1,List.getElem?_drop] at hk;have:=hc (i+k) x hk q u hu;rw[← this];congr 2
    rw[Nat.add_mul];omega
theorem Sl.tail_{α:Type}{F:Nat→Prop}{w:World}{sz:Nat}{enc:α→List Value}{a:Option Addr}{n c:Nat}{l:List α}(h:Sl F w sz enc (.slice a n c) l)(i:Nat)(hi:i≤n) :
  Sl F w sz enc (.slice (if c=i then a else a.map (·.add (i * sz))) (n-i) (c-i)) (l.drop i):=by
 have:=h.slc i n hi (Nat.le_refl _);obtain⟨a',cap,he, -⟩:=_root_.id h;simp only[Value.slice.injEq] at he;rw[he.2.1] at this ⊢;rwa [List.take_of_length_le (by simp)] at this
section
variable {F H:Nat→Prop}{w w':World}
theorem laidE_any(lv mv:Value)(L M:List EntryA)(hl:Sl F w 4 encE lv L)(hm:Sl H w 4 encE mv M)(i many:Nat)(h1:i+many≤L.length)(hb:L.length≤1000000)(hb2:M.length≤1000000) :
  Calls Tryz.prog 226 #[lv,.int .i64 (i:Int),.int .i64 (many:Int),mv] w λe w'=>∃v,e=.returned v∧Own (λ_=>False) w' w.heap.size 281 4 encE v (L.take i++M++L.drop (i+many))∧Ext w w':=by
 obtain⟨la,lc,rfl,l1,l2,l3, -⟩:=_root_.id hl;unfold maxLen at l2;have HL:=oh hl;have HM:=oh hm;have hO0:Hid (Own (λ_=>False) (w.alloc (.cells #[] 281)) w.heap.size 281 4 encE (.slice (some ⟨w.heap.size,0,none⟩) 0 0) ([]:List EntryA)):=oh (Own.empty (λk f=>f.elim) _ _ _ encE_ok.len);have hm0:Hid (Ext w (w.alloc (.cells #[] 281))):=oh ((Mods.refl _ w).alloc _);obtain⟨ma,mc,rfl,m1,m2,m3, -⟩:=hm;have u1:IntKind.i64.wrap ((i:Int)+(many:Int))=((i+many:Nat):Int):=by rw[IntWalk.i64_in _ (by omega)];omega
 have lt1:(L.take i).length=i:=by rw[List.length_take];omega
 have lt2:(L.drop (i+many)).length=L.length-(i+many):=List.length_drop;have HT1:=oh lt1;have HT2:=oh lt2;clear hl lt1 lt2;have p1:Hid (Sl F w 4 encE (.slice la i lc) (L.take i)):=oh (HL.out.pre i (by omega));have p3:Hid (Sl F w 4 encE (.slice (if lc=i+many then la else la.map (·.add ((i+many) * 4))) (L.length-(i+many)) (lc-(i+many))) (L.drop (i+many))):=oh (by have:=HL.out.tail_ (i+many) h1;simpa only[Nat.mul_one] using this);obtain⟨R,hR⟩:∃R,R=L.take i++M++L.drop (i+many):=⟨_,rfl⟩;rw[← hR];have HR:=oh hR;clear hR
 go_enter Tryz.func226, Tryz.ntmps226
 go_wp2_with (first
  | (at_builtin;refine wpl_app2 Tryz.elE encE_ok rfl _ _ rfl w.heap.size _ (.slice la i lc) [] (L.take i) rfl rfl hO0.out (p1.out.ext hm0.out) (by rw[HT1.out];simp only[List.length_nil];omega) (by simp) (λf=>f) ?_;rw[List.nil_append,List.length_nil,HT1.out,Nat.zero_add];intro a1 c1 w1 hO1 hm1 hat1;have HO1:=oh hO1;have HM1:Hid (Ext w w1):=oh (Mods.past hm0.out (hm1.mono (λk hk=>(hO0.out.lt k hk).1)));clear hO1 hm1 hat1)
  | (at_builtin;refine wpl_app2 Tryz.elE encE_ok rfl _ _ rfl w.heap.size (.slice a1 i c1) (.slice ma M.length mc) (L.take i) M rfl rfl HO1.out (HM.out.ext HM1.out) (by rw[HT1.out];omega) HM1.out.size (λf=>f) ?_;rw[HT1.out];intro a2 c2 w2 hO2 hm2 hat2;have HO2:=oh hO2;have HM2:Hid (Ext w w2):=oh (Mods.past HM1.out (hm2.mono (λk hk=>(HO1.out.lt k hk).1)));clear hO2 hm2 hat2)
  | (at_builtin;refine wpl_app2 Tryz.elE encE_ok rfl _ _ rfl w.heap.size (.slice a2 (i+M.length) c2) _ (L.take i++M) (L.drop (i+many)) rfl rfl HO2.out (p3.out.ext HM2.out) (by rw[List.length_append,HT1.out,HT2.out];omega) HM2.out.size (λf=>f) ?_;rw[List.length_append,HT1.out,HT2.out];intro a3 c3 w3 hO3 hm3 hat3;have HO3:=oh hO3;have HM3:Hid (Ext w w3):=oh (Mods.past HM2.out (hm3.mono (λk hk=>(HO2.out.lt k hk).1)));clear hO3 hm3 hat3)
  | fail)
 all_goals
  go_ret;exact⟨_,rfl,by rw[HR.out];exact HO3.out,HM3.out⟩
end
end
section
open Go.RowKit
attribute [local go_sem ↓] Go.wp_at_zero Go.wp_at_succ
theorem key07_any(s:ByteArray)(w:World) : Calls Tryz.prog 56 #[.string s] w λe w'=>e=.returned (.bool (keyB s))∧w=w':=by
 obtain⟨n,hn⟩:∃n,n=s.size:=⟨_,rfl⟩;have HN:Hid (keyB s=(decide (1≤(n:Int)) && decide ((n:Int)≤32))):=oh (by rw[hn];rfl);rw[hn] at HN;clear hn;by_cases h1:0<(s.size:Int)
 all_goals
  have h2:=oh h1
  go_enter Tryz.func56, Tryz.ntmps56
  go_wp2
  go_ret;exact⟨ret_bool (by have:=h2.out;rw[HN.out];first|(rw[decide_eq_true (show 1≤(s.size:Int) by omega)];simp;done)|(rw[decide_eq_false (show ¬ 1≤(s.size:Int) by omega)];simp;done)),rfl⟩
def NodeGot(F:Nat→Prop)(ad:Nat→Addr)(w:World)(lf:Bool)(b:List UInt8)(e:Ending)(w':World):Prop :=
 Ext w w'∧((∃n ve vk vi,getN lf b=some n∧e=.returned (.tuple #[.agg #[.bool lf,ve,vk,vi],.nilIface])∧Sl F w' 4 encE ve n.entries∧Sl F w' 1 encS vk n.keys∧Sl F w' 1 encI vi n.kids) ∨
  (getN lf b=none∧∃f,e=.returned (.tuple #[.agg #[.bool false,.slice none 0 0,.slice none 0 0,.slice none 0 0],faultV f])∧ErrC F ad w' (faultV f) [-1] 1))
theorem Tryz.nodeSize:(Tryz.prog.info? 272).map (·.size)=some 4:=by kernel_rfl
section
variable {F:Nat→Prop}{ad:Nat→Addr}{w wr w2:World}
theorem rdEntry_at_(b:List UInt8)(r:RdA)(hb:b.length≤1000){k:Nat}(h0:0≤r.at_)(h:r.at_≤1020+10 * (k:Int)):0≤(rdEntry b r).2.at_∧(rdEntry b r).2.at_≤1020+10 * ((k+1:Nat):Int):=by
 have:=rdEntry_bd b r;omega
set_option maxHeartbeats 4000000 in
theorem nodeGetL_any(hL:Env F ad w)(bv:Value)(b:List UInt8)(hb:Sl F w 1 encB bv b)(h1000:b.length≤1000) :
  Calls Tryz.prog 220 #[.bool true,bv] w (NodeGot F ad w true b):=by
 have HL:=oh hL;have HS0:Hid (GetS F ad w (((w.alloc (.cells #[.bool false,.slice none 0 0,.slice none 0 0,.slice none 0 0] 272)).alloc (.cells #[bv,.int .i64 0,.bool false] 410)).alloc (.cells #[.bool true,.slice none 0 0,.slice none 0 0,.slice none 0 0] 272)) true bv b ⟨0,false⟩ [] [] [] (.slice none 0 0) (.slice none 0 0) (.slice none 0 0) (.slice none 0 0) (.slice none 0 0) (.slice none 0 0)):=oh
  ⟨(((Mods.refl _ w).alloc _).alloc _).alloc _,hL,hb,by
   have:=(Blk.new (w.alloc (.cells #[.bool false,.slice none 0 0,.slice none 0 0,.slice none 0 0] 272)) #[bv,.int .i64 0,.bool false] 410).alloc (.cells #[.bool true,.slice none 0 0,.slice none 0 0,.slice none 0 0] 272);simpa using this,by
   have:=Blk.new ((w.alloc (.cells #[.bool false,.slice none 0 0,.slice none 0 0,.slice none 0 0] 272)).alloc (.cells #[bv,.int .i64 0,.bool false] 410)) #[.bool true,.slice none 0 0,.slice none 0 0,.slice none 0 0] 272;simpa using this,Own.nil _ _ _ _ _ _,Own.nil _ _ _ _ _ _,Own.nil _ _ _ _ _ _,((Blk.new w _ _).alloc _).alloc _⟩
 have HB:=oh hb;obtain⟨mny,r0,hx⟩:∃n r1,rdNum b ⟨0,false⟩ 2=(n,r1):=⟨_,_,rfl⟩;have hmn:mny≤65535:=by have:=rdNum_few b ⟨0,false⟩;rw[hx] at this;exact this
 have hr0:r0.at_=2:=by have:=rdNum_bd b ⟨0,false⟩ 2;rw[hx] at this;exact this
 have HR0:=oh hr0;have HX:=oh hx;have HND:Hid (rdNode true b=(⟨true,(rdEntries b mny r0 []).1,[],[]⟩,(rdEntries b mny r0 []).2)):=oh (by unfold rdNode;simp only[hx,if_true]);have H10:=oh h1000;obtain⟨ab,cb,rfl,hb1,hb2,hb3,_⟩:=hb;clear hL hx hr0;unfold maxLen at hb2
 go_enter Tryz.func220, Tryz.ntmps220
 go_wp2_with fail;refine (HS0.out.num 2 (.inr (.inl rfl)) (Int.le_refl 0) (show (0:Int)≤1000000000000 by omega) mny HX.out).mono ?_;rintro e w1 ⟨rfl,hS1,_⟩;have HS1:=oh hS1;clear hS1;go_wp2_with fail;go_loopg [9] mny (λm i wr=>∃(k:Nat) (at_:Int) (bd:Bool) (es:List EntryA) (ve:Value),k+m=mny∧i=.int .i64 k∧Hid (rdEntries b m ⟨at_,bd⟩ es=rdEntries b mny r0 [])∧Hid (GetS F ad w wr true (.slice ab b.length cb) b ⟨at_,bd⟩ es [] [] ve (.slice none 0 0) (.slice none 0 0) ve (.slice none 0 0) (.slice none 0 0))∧es.length≤k∧0≤at_∧at_≤1020+10 * (k:Int))
 case atStart=>exact⟨0,r0.at_,r0.bad,[],_,by omega,rfl,oh rfl,HS1,Nat.le_refl 0,by have:=HR0.out;omega,by have:=HR0.out;omega⟩
 case round =>
  obtain⟨k,at_,bd,es,ve,hkm,rfl,HZ,HS,hes,ha0,ha1⟩:=hrel;have b2:=HS.out.box.cell (o:=2) (v:=.bool bd) rfl;by_cases hgo:k<mny∧bd=false
  ·obtain⟨hlt,rfl⟩:=hgo;obtain⟨m,rfl⟩:∃m,gk=m+1:=⟨gk-1,by omega⟩;have hat:=rdEntry_at_ b ⟨at_,false⟩ H10.out (k:=k) ha0 ha1;have HZ2:Hid (rdEntries b m (rdEntry b ⟨at_,false⟩).2 (es++[(rdEntry b ⟨at_,false⟩).1])=rdEntries b mny r0 []):=oh (by
    have:=HZ.out;rw[rdEntries] at this;simpa using this)
   clear HZ;obtain⟨key,r1,hk⟩:∃s r1,rdText b ⟨at_,false⟩=(s,r1):=⟨_,_,rfl⟩;have hk1:=rdText_bd b ⟨at_,false⟩;rw[hk] at hk1;obtain⟨q,r2,hq⟩:∃n r2,rdNum b r1 1=(n,r2):=⟨_,_,rfl⟩;have hq1:=rdNum_fact b r1 1 (.inl rfl);rw[hq] at hq1;simp only at hk1 hq1;have HK:=oh hk;have HQ:=oh hq;have HR1:Hid (0≤r1.at_∧r1.at_≤1000000∧0≤r2.at_∧r2.at_≤1000000):=oh (by have:=H10.out;omega);have HQ1:=oh hq1.1;clear hk hq hk1 hq1;go_wp2_with fail;refine (HS.out.text ha0 (show at_≤1000000000000 by omega) key HK.out).mono ?_;rintro e w2 ⟨rfl,hS2,_⟩;have HS2:=oh hS2;clear hS2;go_wp2_with fail;have HS3:=oh (HS2.out.step ((Mods.refl _ w2).alloc (.cells #[.string key,.string ⟨#[]⟩,.int .i64 0,.int .i64 0] 281)));refine (HS3.out.num 1 (.inl rfl) HR1.out.1 (by have:=HR1.out;omega) q HQ.out).mono ?_;rintro e w3 ⟨rfl,hS4,hm3⟩;have hB3:=(Blk.new w2 #[.string key,.string ⟨#[]⟩,.int .i64 0,.int .i64 0] 281).mods hm3 (by have:=HS2.out.base;omega);have HVX:Hid (ve.ownBlock≠some w2.heap.size):=oh (λe=>by have:=HS2.out.oe.lt _ e;omega);have HB3:=oh hB3;have HS4:=oh hS4;have hz2:=HS2.out.base;clear hB3 hS4 hm3;by_cases hq0:q=0
   ·obtain⟨v,r3,hv⟩:∃s r3,rdText b r2=(s,r3):=⟨_,_,rfl⟩;have HV:=oh hv;have HRE:Hid (rdEntry b ⟨at_,false⟩=(⟨key,v,0,0⟩,r3)):=oh (by unfold rdEntry;simp only[HK.out,HQ.out,if_pos hq0,HV.out]);clear hv;subst hq0;go_wp2_with fail;refine (HS4.out.text HR1.out.2.2.1 (by have:=HR1.out;omega) v HV.out).mono ?_;rintro e w4 ⟨rfl,hS5,hm4⟩;have hB4:=HB3.out.mods hm4 (by omega);have e1:=hB4.cell (o:=1) (v:=.string ⟨#[]⟩) rfl;have ef:=hB4.frozen;have HS5:Hid (GetS F ad w (w4.setCell ⟨w2.heap.size,1,none⟩ (.string v)) true (.slice ab b.length cb) b r3 es [] [] ve (.slice none 0 0) (.slice none 0 0) ve (.slice none 0 0) (.slice none 0 0)):=oh
     (hS5.far (X:=w2.heap.size) hz2 (Mods.at _ w4 _ 1 _ rfl) HVX.out (by simp[Value.ownBlock]) (by simp[Value.ownBlock]))
    have hB5:Blk (w4.setCell ⟨w2.heap.size,1,none⟩ (.string v)) w2.heap.size #[.string key,.string v,.int .i64 0,.int .i64 0] 281:=by simpa using hB4.set 1 (.string v)
    have HB5:=oh hB5;clear hS5 hm4 hB4 hB5;have x0:=HB5.out.cell (o:=0) (v:=.string key) rfl;have x1:=HB5.out.cell (o:=1) (v:=.string v) rfl;have x2:=HB5.out.cell (o:=2) (v:=.int .i64 0) rfl;have x3:=HB5.out.cell (o:=3) (v:=.int .i64 0) rfl;have n1:=HS5.out.nd.cell (o:=1) (v:=ve) rfl;go_wp2_with (at_builtin;go_loud (refine wpl_app2 Tryz.elE encE_ok rfl _ _ rfl (w.heap.size+3) ve _ es [⟨key,v,0,0⟩] rfl rfl (HS5.out.oe.ext ((Mods.refl _ _).alloc _)) (Sl.one (F:=NoF) (heap_at (by simp)) (λf=>f)) (by simp only[List.length_cons,List.length_nil];omega) (by have:=HS5.out.base;simp at this ⊢;omega) (λf=>f) ?_;simp only[List.length_cons,List.length_nil,Nat.zero_add];intro a2 c2 w5 hO5 hm5 hat5;have hS6:=(HS5.out.step ((Mods.refl _ _).alloc _)).appE hm5 hO5;have z1:=hS6.nd.cell (o:=1) (v:=ve) rfl;have zf:=hS6.nd.frozen 1));have HS7:Hid (GetS F ad w (w5.setCell ⟨w.heap.size+1+1,1,none⟩ (.slice a2 (es.length+1) c2)) true (.slice ab b.length cb) b r3 (es++[⟨key,v,0,0⟩]) [] [] (.slice a2 (es.length+1) c2) (.slice none 0 0) (.slice none 0 0) (.slice a2 (es.length+1) c2) (.slice none 0 0) (.slice none 0 0)):=oh
     (hS6.put 1 (.slice a2 (es.length+1) c2) (.slice a2 (es.length+1) c2) (.slice none 0 0) (.slice none 0 0) rfl)
    clear hS6 hO5 hm5 hat5;rw[HRE.out] at hat;simp only at hat;have HAT:=oh hat;have HZ3:Hid (rdEntries b m r3 (es++[⟨key,v,0,0⟩])=rdEntries b mny r0 []):=oh (by have:=HZ2.out;rw[HRE.out] at this;exact this);clear hat;go_wp2_with fail;go_roundg m
    case measure=>omega
    case rel=>exact⟨k+1,r3.at_,r3.bad,es++[⟨key,v,0,0⟩],_,by omega,by go_num,HZ3,HS7,by rw[List.length_append,List.length_cons,List.length_nil];omega,HAT.out.1,HAT.out.2⟩
   ·have hqb:((q:Int) == 0)=false:=by rw[beq_eq_false_iff_ne];omega
    obtain⟨c,r3,hc⟩:∃n r3,rdNum b r2 4=(n,r3):=⟨_,_,rfl⟩;obtain⟨z,r4,hz⟩:∃n r4,rdNum b r3 4=(n,r4):=⟨_,_,rfl⟩;have hc1:=rdNum_fact b r2 4 (.inr (.inr rfl));rw[hc] at hc1;have HC:=oh hc;have HZZ:=oh hz;have HR3:Hid (0≤r3.at_∧r3.at_≤10000000):=oh (by have:=HR1.out;simp only at hc1;omega);have HRE:Hid (rdEntry b ⟨at_,false⟩=(⟨key,⟨#[]⟩,(c:Int),(z:Int)⟩,r4)):=oh (by unfold rdEntry;simp only[HK.out,HQ.out,if_neg hq0,HC.out,HZZ.out]);clear hc hz hc1 hq0;go_wp2_with fail;refine (HS4.out.num 4 (.inr (.inr rfl)) HR1.out.2.2.1 (by have:=HR1.out;omega) c HC.out).mono ?_;rintro e w4 ⟨rfl,hS5,hm4⟩;have hB4:=HB3.out.mods hm4 (by omega);have HB4:=oh hB4;have HS5:=oh hS5;clear hB4 hS5 hm4;go_wp2_with fail;refine (HS5.out.num 4 (.inr (.inr rfl)) HR3.out.1 (by have:=HR3.out;omega) z HZZ.out).mono ?_;rintro e w4b ⟨rfl,hS5,hm4⟩;have hB4:=HB4.out.mods hm4 (by omega);have e2:=hB4.cell (o:=2) (v:=.int .i64 0) rfl;have e3:=hB4.cell (o:=3) (v:=.int .i64 0) rfl;have ef:=hB4.frozen;have HS6:Hid (GetS F ad w ((w4b.setCell ⟨w2.heap.size,2,none⟩ (.int .i64 (c:Int))).setCell ⟨w2.heap.size,3,none⟩ (.int .i64 (z:Int))) true (.slice ab b.length cb) b r4 es [] [] ve (.slice none 0 0) (.slice none 0 0) ve (.slice none 0 0) (.slice none 0 0)):=oh
     (hS5.far (X:=w2.heap.size) hz2 ((Mods.at (λk=>k=w2.heap.size) w4b _ 2 _ rfl).trans (Mods.at (λk=>k=w2.heap.size) _ _ 3 _ rfl)) HVX.out (by simp[Value.ownBlock]) (by simp[Value.ownBlock]))
    have hB5:Blk ((w4b.setCell ⟨w2.heap.size,2,none⟩ (.int .i64 (c:Int))).setCell ⟨w2.heap.size,3,none⟩ (.int .i64 (z:Int))) w2.heap.size #[.string key,.string ⟨#[]⟩,.int .i64 (c:Int),.int .i64 (z:Int)] 281:=by simpa using (hB4.set 2 (.int .i64 (c:Int))).set 3 (.int .i64 (z:Int))
    have HB5:=oh hB5;clear hS5 hm4 hB4 hB5;have x0:=HB5.out.cell (o:=0) (v:=.string key) rfl;have x1:=HB5.out.cell (o:=1) (v:=.string ⟨#[]⟩) rfl;have x2:=HB5.out.cell (o:=2) (v:=.int .i64 (c:Int)) rfl;have x3:=HB5.out.cell (o:=3) (v:=.int .i64 (z:Int)) rfl;have n1:=HS6.out.nd.cell (o:=1) (v:=ve) rfl;go_wp2_with (at_builtin;go_loud (refine wpl_app2 Tryz.elE encE_ok rfl _ _ rfl (w.heap.size+3) ve _ es [⟨key,⟨#[]⟩,(c:Int),(z:Int)⟩] rfl rfl (HS6.out.oe.ext ((Mods.refl _ _).alloc _)) (Sl.one (F:=NoF) (heap_at (by simp)) (λf=>f)) (by simp only[List.length_cons,List.length_nil];omega) (by have:=HS6.out.base;simp at this ⊢;omega) (λf=>f) ?_;simp only[List.length_cons,List.length_nil,Nat.zero_add];intro a2 c2 w5 hO5 hm5 hat5;have hS6:=(HS6.out.step ((Mods.refl _ _).alloc _)).appE hm5 hO5;have z1:=hS6.nd.cell (o:=1) (v:=ve) rfl;have zf:=hS6.nd.frozen 1));have HS7:Hid (GetS F ad w (w5.setCell ⟨w.heap.size+1+1,1,none⟩ (.slice a2 (es.length+1) c2)) true (.slice ab b.length cb) b r4 (es++[⟨key,⟨#[]⟩,(c:Int),(z:Int)⟩]) [] [] (.slice a2 (es.length+1) c2) (.slice none 0 0) (.slice none 0 0) (.slice a2 (es.length+1) c2) (.slice none 0 0) (.slice none 0 0)):=oh
     (hS6.put 1 (.slice a2 (es.length+1) c2) (.slice a2 (es.length+1) c2) (.slice none 0 0) (.slice none 0 0) rfl)
    clear hS6 hO5 hm5 hat5;rw[HRE.out] at hat;simp only at hat;have HAT:=oh hat;have HZ3:Hid (rdEntries b m r4 (es++[⟨key,⟨#[]⟩,(c:Int),(z:Int)⟩])=rdEntries b mny r0 []):=oh (by have:=HZ2.out;rw[HRE.out] at this;exact this);clear hat;go_wp2_with fail;go_roundg m
    case measure=>omega
    case rel=>exact⟨k+1,r4.at_,r4.bad,es++[⟨key,⟨#[]⟩,(c:Int),(z:Int)⟩],_,by omega,by go_num,HZ3,HS7,by rw[List.length_append,List.length_cons,List.length_nil];omega,HAT.out.1,HAT.out.2⟩
  ·have HEND:Hid (rdEntries b mny r0 []=(es,⟨at_,bd⟩)):=oh (by
    rw[← HZ.out];cases gk with
    | zero=>rfl
    | succ m =>
     rw[rdEntries];have:bd=true:=by
      cases bd
      ·exact absurd ⟨by omega,rfl⟩ hgo
      ·rfl
     rw[this];rfl)
   have HNN:Hid (rdNode true b=(⟨true,es,[],[]⟩,⟨at_,bd⟩)):=oh (by rw[HND.out,HEND.out]);have HGN:Hid (getN true b=if bd=false∧rightN ⟨true,es,[],[]⟩=true∧bytesN ⟨true,es,[],[]⟩=b then some ⟨true,es,[],[]⟩ else none):=oh (by unfold getN;simp only[HNN.out]);obtain⟨pa,pc,rfl,hpc1,hpc2⟩:=HS.out.oe.form;unfold maxLen at hpc2;have hlen:rightN ⟨true,es,[],[]⟩=true→(bytesN ⟨true,es,[],[]⟩).length≤100000:=λhr=>by
    have:=rdNode_small true b H10.out;rw[HNN.out] at this;exact this hr
   have HPUT:=oh (nodePut_any (F:=GB F w) HS.out.env ⟨true,es,[],[]⟩ (.slice pa es.length pc) (.slice none 0 0) (.slice none 0 0) (HS.out.slE HS.out.gb (by omega)) (Sl.nil _ _ _ _) (Sl.nil _ _ _ _) hlen);have n0:=HS.out.nd.cell (o:=0) (v:=.bool true) rfl;have n1:=HS.out.nd.cell (o:=1) (v:=.slice pa es.length pc) rfl;have n2:=HS.out.nd.cell (o:=2) (v:=.slice none 0 0) rfl;have n3:=HS.out.nd.cell (o:=3) (v:=.slice none 0 0) rfl;have hcase:(k<mny∧bd=true)∨(mny≤k∧bd=true)∨(mny≤k∧bd=false):=by
    by_cases h1:k<mny
    ·cases bd
     ·exact absurd ⟨h1,rfl⟩ hgo
     ·exact .inl ⟨h1,rfl⟩
    ·cases bd
     ·exact .inr (.inr ⟨by omega,rfl⟩)
     ·exact .inr (.inl ⟨by omega,rfl⟩)
   have hlenN:=hlen;have HLEN:=oh hlen;clear HZ HEND hlen hgo hlenN;rcases hcase with ⟨hlt,rfl⟩|⟨hlt,rfl⟩|⟨hlt,rfl⟩
   rotate_left 2;focus
    have hlen:=HLEN.out;go_wp2_with fail;refine (HPUT.out).mono ?_;rintro e w6 hP;obtain⟨hx6,hP⟩:=hP;have HS6:=oh (HS.out.step hx6);clear hx6;rcases hP with ⟨hrt,a6,c6,rfl,hO6⟩|⟨hrt,f6,rfl,hE6⟩
    focus
     have HRT:=oh hrt;have HSL6:=oh (Own.sl (F:=NoF) hO6 encB_ok.len (by have:=hlen hrt;omega));clear hrt hO6 hlen;have b2b:=HS6.out.box.cell (o:=2) (v:=.bool false) rfl;go_wp2_with fail;refine (EqualB_any (F:=NoF) (G:=F) _ _ _ b HSL6.out (HB.out.ext HS6.out.ext)).mono ?_;rintro e w8 ⟨rfl,hm8⟩;have HS8:=oh (HS6.out.step hm8);clear hm8;by_cases heq:bytesN ⟨true,es,[],[]⟩=b
     ·rw[decide_eq_true heq];have HEQ:=oh heq;clear heq;have n0:=HS8.out.nd.cell (o:=0) (v:=.bool true) rfl;have n1:=HS8.out.nd.cell (o:=1) (v:=.slice pa es.length pc) rfl;have n2:=HS8.out.nd.cell (o:=2) (v:=.slice none 0 0) rfl;have n3:=HS8.out.nd.cell (o:=3) (v:=.slice none 0 0) rfl;have r0:=HS8.out.res.cell (o:=0) (v:=.bool false) rfl;have r1:=HS8.out.res.cell (o:=1) (v:=.slice none 0 0) rfl;have r2:=HS8.out.res.cell (o:=2) (v:=.slice none 0 0) rfl;have r3:=HS8.out.res.cell (o:=3) (v:=.slice none 0 0) rfl;have rf:=HS8.out.res.frozen;have HRB:=oh (HS8.out.res.set4 (.bool true) (.slice pa es.length pc) (.slice none 0 0) (.slice none 0 0));have HMR:=oh (Mods.set4 (F:=λk=>k=w.heap.size) (Mods.refl _ w8) (.inr rfl) (.bool true) (.slice pa es.length pc) (.slice none 0 0) (.slice none 0 0));go_wp2_with fail;refine bodyPost_ret (results_row_tmp rfl _ _ w.heap.size 272 #[.bool true,.slice pa es.length pc,.slice none 0 0,.slice none 0 0] _ rfl HRB.out Tryz.underlying272 rfl Tryz.nodeSize) rfl ?_;refine⟨Mods.set4 HS8.out.ext (.inl (Nat.le_refl _)) _ _ _ _,.inl ⟨⟨true,es,[],[]⟩,.slice pa es.length pc,.slice none 0 0,.slice none 0 0,by rw[HGN.out];exact if_pos (by first|exact⟨rfl,HRT.out,HEQ.out⟩|exact⟨trivial,HRT.out,HEQ.out⟩),rfl,?_,?_,?_⟩⟩
      ·exact (HS8.out.slE (G:=GB F w) HS8.out.gb (by omega)).step (HMR.out.mono (λk (hk:k=w.heap.size)=>.inr ⟨by omega,by omega⟩)) (λk _ hn hf=>hn (.inl hf))
      ·exact (HS8.out.slK (G:=GB F w) HS8.out.gb (by simp)).step (HMR.out.mono (λk (hk:k=w.heap.size)=>.inr ⟨by omega,by omega⟩)) (λk _ hn hf=>hn (.inl hf))
      ·exact (HS8.out.slI (G:=GB F w) HS8.out.gb (by simp)).step (HMR.out.mono (λk (hk:k=w.heap.size)=>.inr ⟨by omega,by omega⟩)) (λk _ hn hf=>hn (.inl hf))
     rw[decide_eq_false heq];have HEQ:=oh heq;clear heq;have HS6:=HS8;have b2c:=HS6.out.box.cell (o:=2) (v:=.bool false) rfl;have HNE:Hid (getN true b=none):=oh (by rw[HGN.out];exact if_neg (λh=>HEQ.out h.2.2))
    rotate_left;focus
     have HRT:=oh hrt;clear hrt hE6;have b2c:=HS6.out.box.cell (o:=2) (v:=.bool false) rfl;have HNE:Hid (getN true b=none):=oh (by rw[HGN.out];exact if_neg (λh=>by have:=h.2.1;rw[HRT.out] at this;cases this))
   rotate_left 2;iterate 2
    focus
     go_wp2_with fail;refine (HPUT.out).mono ?_;rintro e w6 hP;obtain⟨hx6,hP⟩:=hP;have HS6:=oh (HS.out.step hx6);clear hx6;rcases hP with ⟨_,a6,c6,rfl,_⟩|⟨_,f6,rfl,_⟩
     all_goals
      have b2c:=HS6.out.box.cell (o:=2) (v:=.bool true) rfl;have HNE:Hid (getN true b=none):=oh (by rw[HGN.out];exact if_neg (λh=>by have:=h.1;cases this))
    rotate_left 2
   all_goals
    have g1:=HS6.out.env.c1;go_wp2_with fail;refine (new_any HS6.out.env _ _ [] 1 (.sent 1 (by decide) (by decide))).mono ?_;rintro e w7 ⟨f7,rfl,hE7,hm7⟩;have hS7:=HS6.out.step hm7;have r0:=hS7.res.cell (o:=0) (v:=.bool false) rfl;have r1:=hS7.res.cell (o:=1) (v:=.slice none 0 0) rfl;have r2:=hS7.res.cell (o:=2) (v:=.slice none 0 0) rfl;have r3:=hS7.res.cell (o:=3) (v:=.slice none 0 0) rfl;have rf:=hS7.res.frozen;have HS7:=oh hS7;have HE7:=oh hE7;have HRB:=oh (hS7.res.set4 (.bool false) (.slice none 0 0) (.slice none 0 0) (.slice none 0 0));clear hS7 hE7 hm7;go_wp2_with fail;refine bodyPost_ret (results_row_tmp rfl _ _ w.heap.size 272 #[.bool false,.slice none 0 0,.slice none 0 0,.slice none 0 0] _ rfl HRB.out Tryz.underlying272 rfl Tryz.nodeSize) rfl ?_;exact⟨Mods.set4 HS7.out.ext (.inl (Nat.le_refl _)) _ _ _ _,.inr ⟨HNE.out,f7,rfl,HE7.out.step (Mods.set4 (Mods.refl _ w7) (.inr (.inr ⟨Nat.le_refl _,by omega⟩)) _ _ _ _) (λk _ hn hf=>hn (.inl hf))⟩⟩
end
end
section
open Go.RowKit
def decodeA(p:PageA):NodeA ⊕ Err :=
 if p.kind=3∨p.kind=2 then (match getN (decide (p.kind=3)) p.body with|some n=>.inl n|none=>.inr ([pgOf p.id],5)) else .inr ([pgOf p.id],5)
def GA.load(G:GA)(id:Int):NodeA ⊕ Err :=
 match G.get id with
 | .inr (l,k)=>.inr (-1 :: l,k)
 | .inl p=>match decodeA p with
  | .inl n=>.inl n
  | .inr (l,k)=>.inr (-1 :: l,k)
def valueA(G:GA)(e:EntryA):ByteArray ⊕ Err :=
 if e.chain=0 then .inl e.value else match chErr G e.chain e.size with
  | none=>.inl ⟨((walkA G e.size.toNat e.chain e.size).1.flatMap (·.2)).toArray⟩
  | some (l,k)=>.inr (-1 :: l,k)
def valueOk(G:GA)(e:EntryA):Prop:=e.chain≠0→25≤e.size→e.size≤4096→walkOk G e.size.toNat e.chain e.size
theorem decodeA_right{p:PageA}{n:NodeA}(h:decodeA p=.inl n):rightN n=true∧n.leaf=decide (p.kind=3):=by
 unfold decodeA at h;split at h
 ·split at h
  ·rename_i h1;injection h with h;subst h;unfold getN at h1;simp only at h1;split at h1
   ·rename_i h2;injection h1 with h1;subst h1;refine⟨h2.2.1,?_⟩;unfold rdNode;simp only;split
    ·rename_i h3;simpa using h3.symm
    ·rename_i h3;simpa using h3
   ·cases h1
  ·cases h
 ·cases h
theorem GA.load_right{G:GA}{id:Int}{n:NodeA}(h:G.load id=.inl n):rightN n=true:=by
 unfold GA.load at h;split at h
 ·cases h
 ·split at h
  ·rename_i h1;injection h with h;subst h;exact (decodeA_right h1).1
  ·cases h
def GA.node(G:GA)(id:Nat):Option NodeA:=if id<G.blocks then (match G.view id with
 | some (.inl p)=>(match decodeA p with | .inl n=>some n | .inr _=>none)
 | _=>none) else none
theorem GA.node_load{G:GA}{id:Nat}{n:NodeA}(h:G.node id=some n):G.knows (id:Int)∧G.load (id:Int)=.inl n:=by
 unfold GA.node at h;split at h
 ·rename_i hlt;split at h
  ·rename_i p hp;refine⟨λ_=>⟨_,by rw[Int.toNat_natCast];exact hp⟩,?_⟩;unfold GA.load;rw[get_view hlt hp];simp only;split at h
   ·rename_i h1;injection h with h;subst h;rw[h1]
   ·cases h
  ·cases h
 ·cases h
def GA.R(G:GA)(c s:Int):Option ByteArray:=match chErr G c s with
 | none=>some ⟨((walkA G s.toNat c s).1.flatMap (·.2)).toArray⟩
 | some _=>none
end
end Go.Proofs.YtdnbmdghmmpgcaaGreatDoor

/- Parts of the proof, in build order. No condition. -/
import Derived.Test.YtfkcmbonmpcbfaaGreatTa07
import Derived.Test.YtfkcmbonmpcbfaaGreatTa06
import Derived.MapKept
import Derived.Maps.Range
import Derived.Test.YtfkcmbonmpcbfaaGreatTa04
import Derived.Laws.StructEq
import Derived.Laws.Small
import Derived.ChangeKeysEq
set_option linter.unusedSimpArgs false
set_option linter.unusedVariables false
set_option maxHeartbeats 1000000
set_option maxRecDepth 20000
namespace Go.Proofs.YtfkcmbonmpcbfaaGreat
open Go.RowKit Go.Lp Go.Sy
structure bu where
 obj:ByteArray
 sec:ByteArray
 kind:Int
 at_:Int
 size:Int
 digest:ByteArray
 form:ByteArray
 deriving Inhabited
abbrev bu.row(x:bu):List D:=[.v (.string x.obj),.v (.string x.sec),.v (.int .i64 x.kind),.v (.int .i64 x.at_),.v (.int .i64 x.size),.v (.string x.digest),.v (.string x.form)]
abbrev bu.vs(x:bu):List Value:=[.string x.obj,.string x.sec,.int .i64 x.kind,.int .i64 x.at_,.int .i64 x.size,.string x.digest,.string x.form]
abbrev bu.val(x:bu):Value:=.agg #[.string x.obj,.string x.sec,.int .i64 x.kind,.int .i64 x.at_,.int .i64 x.size,.string x.digest,.string x.form]
def bu.ok(x:bu):Per:=cg (ea x.obj) (cg (ea x.sec) (cg (ea x.digest) (ea x.form)))
theorem bu.f_obj{ps:List Per}{x:bu}(h:Ent ps x.ok):Ent ps (ea x.obj):=(Ent.left h)
theorem bu.f_sec{ps:List Per}{x:bu}(h:Ent ps x.ok):Ent ps (ea x.sec):=(Ent.left (Ent.right h))
structure bT where
 name:ByteArray
 version:ByteArray
 main:Bool
 kind:Int
 at_:Int
 size:Int
 deriving Inhabited
abbrev bT.row(x:bT):List D:=[.v (.string x.name),.v (.string x.version),.v (.bool x.main),.v (.int .i64 x.kind),.v (.int .i64 x.at_),.v (.int .i64 x.size)]
abbrev bT.vs(x:bT):List Value:=[.string x.name,.string x.version,.bool x.main,.int .i64 x.kind,.int .i64 x.at_,.int .i64 x.size]
abbrev bT.val(x:bT):Value:=.agg #[.string x.name,.string x.version,.bool x.main,.int .i64 x.kind,.int .i64 x.at_,.int .i64 x.size]
def bT.ok(x:bT):Per:=cg (ea x.name) (ea x.version)
theorem bT.f_name{ps:List Per}{x:bT}(h:Ent ps x.ok):Ent ps (ea x.name):=(Ent.left h)
theorem bT.f_version{ps:List Per}{x:bT}(h:Ent ps x.ok):Ent ps (ea x.version):=(Ent.right h)
structure b6 where
 name:ByteArray
 version:ByteArray
 kind:Int
 weak:Bool
 own:Bool
 deriving Inhabited
abbrev b6.row(x:b6):List D:=[.v (.string x.name),.v (.string x.version),.v (.int .i64 x.kind),.v (.bool x.weak),.v (.bool x.own)]
abbrev b6.vs(x:b6):List Value:=[.string x.name,.string x.version,.int .i64 x.kind,.bool x.weak,.bool x.own]
abbrev b6.val(x:b6):Value:=.agg #[.string x.name,.string x.version,.int .i64 x.kind,.bool x.weak,.bool x.own]
def b6.ok(x:b6):Per:=cg (ea x.name) (ea x.version)
theorem b6.f_name{ps:List Per}{x:b6}(h:Ent ps x.ok):Ent ps (ea x.name):=(Ent.left h)
theorem b6.f_version{ps:List Per}{x:b6}(h:Ent ps x.ok):Ent ps (ea x.version):=(Ent.right h)
structure mE where
 at_:Int
 kind:Int
 import_:Int
 add:Int
 deriving Inhabited
abbrev mE.row(x:mE):List D:=[.v (.int .i64 x.at_),.v (.int .i64 x.kind),.v (.int .i64 x.import_),.v (.int .i64 x.add)]
abbrev mE.vs(x:mE):List Value:=[.int .i64 x.at_,.int .i64 x.kind,.int .i64 x.import_,.int .i64 x.add]
structure fo where
 name:ByteArray
 kind:Int
 at_:Int
 size:Int
 deriving Inhabited
abbrev fo.row(x:fo):List D:=[.v (.string x.name),.v (.int .i64 x.kind),.v (.int .i64 x.at_),.v (.int .i64 x.size)]
abbrev fo.vs(x:fo):List Value:=[.string x.name,.int .i64 x.kind,.int .i64 x.at_,.int .i64 x.size]
abbrev fo.val(x:fo):Value:=.agg #[.string x.name,.int .i64 x.kind,.int .i64 x.at_,.int .i64 x.size]
def fo.ok(x:fo):Per:=ea x.name
structure bt where
 at_:Int
 size:Int
 deriving Inhabited
abbrev bt.row(x:bt):List D:=[.v (.int .i64 x.at_),.v (.int .i64 x.size)]
abbrev bt.vs(x:bt):List Value:=[.int .i64 x.at_,.int .i64 x.size]
abbrev bt.val(x:bt):Value:=.agg #[.int .i64 x.at_,.int .i64 x.size]
structure cW where
 marks:Sl fo
 lines:Sl fl
 ends:Sl bt
 inlines:Sl cJ
 vars:Sl ga
 depths:Sl dH
 deriving Inhabited
abbrev cW.row(x:cW):List D:=[.v (.slice x.marks.ad x.marks.l.length x.marks.cap),.v (.slice x.lines.ad x.lines.l.length x.lines.cap),.v (.slice x.ends.ad x.ends.l.length x.ends.cap),.v (.slice x.inlines.ad x.inlines.l.length x.inlines.cap),.v (.slice x.vars.ad x.vars.l.length x.vars.cap),.v (.slice x.depths.ad x.depths.l.length x.depths.cap)]
abbrev cW.vs(x:cW):List Value:=[.slice x.marks.ad x.marks.l.length x.marks.cap,.slice x.lines.ad x.lines.l.length x.lines.cap,.slice x.ends.ad x.ends.l.length x.ends.cap,.slice x.inlines.ad x.inlines.l.length x.inlines.cap,.slice x.vars.ad x.vars.l.length x.vars.cap,.slice x.depths.ad x.depths.l.length x.depths.cap]
def cW.ok(x:cW):Per:=cg (ShF (fo.row) x.marks) (cg (bN (fun y=>fo.ok y) x.marks.l) (cg (ShF (fl.row) x.lines) (cg (bN (fun y=>fl.ok y) x.lines.l) (cg (ShF (bt.row) x.ends) (cg (ShF (cJ.row) x.inlines) (cg (bN (fun y=>cJ.ok y) x.inlines.l) (cg (ShF (ga.row) x.vars) (cg (bN (fun y=>ga.ok y) x.vars.l) (ShF (dH.row) x.depths)))))))))
theorem cW.f_marks{ps:List Per}{x:cW}(h:Ent ps x.ok):Ent ps (ShF (fo.row) x.marks):=(Ent.left h)
theorem cW.f_lines{ps:List Per}{x:cW}(h:Ent ps x.ok):Ent ps (ShF (fl.row) x.lines):=(Ent.left (Ent.right (Ent.right h)))
theorem cW.f_ends{ps:List Per}{x:cW}(h:Ent ps x.ok):Ent ps (ShF (bt.row) x.ends):=(Ent.left (Ent.right (Ent.right (Ent.right (Ent.right h)))))
theorem cW.f_inlines{ps:List Per}{x:cW}(h:Ent ps x.ok):Ent ps (ShF (cJ.row) x.inlines):=(Ent.left (Ent.right (Ent.right (Ent.right (Ent.right (Ent.right h))))))
theorem cW.f_vars{ps:List Per}{x:cW}(h:Ent ps x.ok):Ent ps (ShF (ga.row) x.vars):=(Ent.left (Ent.right (Ent.right (Ent.right (Ent.right (Ent.right (Ent.right (Ent.right h))))))))
theorem cW.f_depths{ps:List Per}{x:cW}(h:Ent ps x.ok):Ent ps (ShF (dH.row) x.depths):=(Ent.right (Ent.right (Ent.right (Ent.right (Ent.right (Ent.right (Ent.right (Ent.right (Ent.right h)))))))))
structure dD where
 obj:ByteArray
 sec:ByteArray
 from_:ByteArray
 pieces:Sl eQ
 code:Int
 deriving Inhabited
abbrev dD.row(x:dD):List D:=[.v (.string x.obj),.v (.string x.sec),.v (.string x.from_),.v (.slice x.pieces.ad x.pieces.l.length x.pieces.cap),.v (.int .i64 x.code)]
abbrev dD.vs(x:dD):List Value:=[.string x.obj,.string x.sec,.string x.from_,.slice x.pieces.ad x.pieces.l.length x.pieces.cap,.int .i64 x.code]
abbrev dD.val(x:dD):Value:=.agg #[.string x.obj,.string x.sec,.string x.from_,.slice x.pieces.ad x.pieces.l.length x.pieces.cap,.int .i64 x.code]
def dD.ok(x:dD):Per:=cg (ea x.obj) (cg (ea x.sec) (cg (ea x.from_) (ShF (eQ.row) x.pieces)))
theorem dD.f_obj{ps:List Per}{x:dD}(h:Ent ps x.ok):Ent ps (ea x.obj):=(Ent.left h)
theorem dD.f_sec{ps:List Per}{x:dD}(h:Ent ps x.ok):Ent ps (ea x.sec):=(Ent.left (Ent.right h))
theorem dD.f_pieces{ps:List Per}{x:dD}(h:Ent ps x.ok):Ent ps (ShF (eQ.row) x.pieces):=(Ent.right (Ent.right (Ent.right h)))
structure an where
 name:ByteArray
 lib:Bool
 code:Int
 data:Int
 zero:Int
 bytes:ByteArray
 tls:ByteArray
 block:Int
 nodes:Sl bu
 exports:Sl bT
 imports:Sl b6
 slots:Sl Int
 stubs:Sl Int
 dyns:Sl mE
 inits:Sl Int
 lasts:Sl Int
 entry:Int
 needs:Sl ByteArray
 versions:Sl aN
 info:cW
 changes:Sl dD
 deriving Inhabited
abbrev an.row(x:an):List D:=[.v (.string x.name),.v (.bool x.lib),.v (.int .i64 x.code),.v (.int .i64 x.data),.v (.int .i64 x.zero),.v (.string x.bytes),.v (.string x.tls),.v (.int .i64 x.block),.v (.slice x.nodes.ad x.nodes.l.length x.nodes.cap),.v (.slice x.exports.ad x.exports.l.length x.exports.cap),.v (.slice x.imports.ad x.imports.l.length x.imports.cap),.v (.slice x.slots.ad x.slots.l.length x.slots.cap),.v (.slice x.stubs.ad x.stubs.l.length x.stubs.cap),.v (.slice x.dyns.ad x.dyns.l.length x.dyns.cap),.v (.slice x.inits.ad x.inits.l.length x.inits.cap),.v (.slice x.lasts.ad x.lasts.l.length x.lasts.cap),.v (.int .i64 x.entry),.v (.slice x.needs.ad x.needs.l.length x.needs.cap),.v (.slice x.versions.ad x.versions.l.length x.versions.cap),.v (.slice x.info.marks.ad x.info.marks.l.length x.info.marks.cap),.v (.slice x.info.lines.ad x.info.lines.l.length x.info.lines.cap),.v (.slice x.info.ends.ad x.info.ends.l.length x.info.ends.cap),.v (.slice x.info.inlines.ad x.info.inlines.l.length x.info.inlines.cap),.v (.slice x.info.vars.ad x.info.vars.l.length x.info.vars.cap),.v (.slice x.info.depths.ad x.info.depths.l.length x.info.depths.cap),.v (.slice x.changes.ad x.changes.l.length x.changes.cap)]
abbrev an.vs(x:an):List Value:=[.string x.name,.bool x.lib,.int .i64 x.code,.int .i64 x.data,.int .i64 x.zero,.string x.bytes,.string x.tls,.int .i64 x.block,.slice x.nodes.ad x.nodes.l.length x.nodes.cap,.slice x.exports.ad x.exports.l.length x.exports.cap,.slice x.imports.ad x.imports.l.length x.imports.cap,.slice x.slots.ad x.slots.l.length x.slots.cap,.slice x.stubs.ad x.stubs.l.length x.stubs.cap,.slice x.dyns.ad x.dyns.l.length x.dyns.cap,.slice x.inits.ad x.inits.l.length x.inits.cap,.slice x.lasts.ad x.lasts.l.length x.lasts.cap,.int .i64 x.entry,.slice x.needs.ad x.needs.l.length x.needs.cap,.slice x.versions.ad x.versions.l.length x.versions.cap,.slice x.info.marks.ad x.info.marks.l.length x.info.marks.cap,.slice x.info.lines.ad x.info.lines.l.length x.info.lines.cap,.slice x.info.ends.ad x.info.ends.l.length x.info.ends.cap,.slice x.info.inlines.ad x.info.inlines.l.length x.info.inlines.cap,.slice x.info.vars.ad x.info.vars.l.length x.info.vars.cap,.slice x.info.depths.ad x.info.depths.l.length x.info.depths.cap,.slice x.changes.ad x.changes.l.length x.changes.cap]
abbrev an.val(x:an):Value:=.agg #[.string x.name,.bool x.lib,.int .i64 x.code,.int .i64 x.data,.int .i64 x.zero,.string x.bytes,.string x.tls,.int .i64 x.block,.slice x.nodes.ad x.nodes.l.length x.nodes.cap,.slice x.exports.ad x.exports.l.length x.exports.cap,.slice x.imports.ad x.imports.l.length x.imports.cap,.slice x.slots.ad x.slots.l.length x.slots.cap,.slice x.stubs.ad x.stubs.l.length x.stubs.cap,.slice x.dyns.ad x.dyns.l.length x.dyns.cap,.slice x.inits.ad x.inits.l.length x.inits.cap,.slice x.lasts.ad x.lasts.l.length x.lasts.cap,.int .i64 x.entry,.slice x.needs.ad x.needs.l.length x.needs.cap,.slice x.versions.ad x.versions.l.length x.versions.cap,.slice x.info.marks.ad x.info.marks.l.length x.info.marks.cap,.slice x.info.lines.ad x.info.lines.l.length x.info.lines.cap,.slice x.info.ends.ad x.info.ends.l.length x.info.ends.cap,.slice x.info.inlines.ad x.info.inlines.l.length x.info.inlines.cap,.slice x.info.vars.ad x.info.vars.l.length x.info.vars.cap,.slice x.info.depths.ad x.info.depths.l.length x.info.depths.cap,.slice x.changes.ad x.changes.l.length x.changes.cap]
def an.ok(x:an):Per:=cg (ea x.name) (cg (ea x.bytes) (cg (ea x.tls) (cg (ShF (bu.row) x.nodes) (cg (bN (fun y=>bu.ok y) x.nodes.l) (cg (ShF (bT.row) x.exports) (cg (bN (fun y=>bT.ok y) x.exports.l) (cg (ShF (b6.row) x.imports) (cg (bN (fun y=>b6.ok y) x.imports.l) (cg (ShF (fun z=>[.v (.int .i64 z)]) x.slots) (cg (ShF (fun z=>[.v (.int .i64 z)]) x.stubs) (cg (ShF (mE.row) x.dyns) (cg (ShF (fun z=>[.v (.int .i64 z)]) x.inits) (cg (ShF (fun z=>[.v (.int .i64 z)]) x.lasts) (cg (ShF (fun s=>[.v (.string s)]) x.needs) (cg (bN (fun y=>ea y) x.needs.l) (cg (ShF (aN.row) x.versions) (cg (bN (fun y=>aN.ok y) x.versions.l) (cg (cW.ok x.info) (cg (ShF (dD.row) x.changes) (bN (fun y=>dD.ok y) x.changes.l))))))))))))))))))))
theorem an.f_name{ps:List Per}{x:an}(h:Ent ps x.ok):Ent ps (ea x.name):=(Ent.left h)
theorem an.f_tls{ps:List Per}{x:an}(h:Ent ps x.ok):Ent ps (ea x.tls):=(Ent.left (Ent.right (Ent.right h)))
theorem an.f_nodes{ps:List Per}{x:an}(h:Ent ps x.ok):Ent ps (ShF (bu.row) x.nodes):=(Ent.left (Ent.right (Ent.right (Ent.right h))))
theorem an.f_nodesA{ps:List Per}{x:an}(h:Ent ps x.ok):Ent ps (bN (fun y=>bu.ok y) x.nodes.l):=(Ent.left (Ent.right (Ent.right (Ent.right (Ent.right h)))))
theorem an.f_exports{ps:List Per}{x:an}(h:Ent ps x.ok):Ent ps (ShF (bT.row) x.exports):=(Ent.left (Ent.right (Ent.right (Ent.right (Ent.right (Ent.right h))))))
theorem an.f_exportsA{ps:List Per}{x:an}(h:Ent ps x.ok):Ent ps (bN (fun y=>bT.ok y) x.exports.l):=(Ent.left (Ent.right (Ent.right (Ent.right (Ent.right (Ent.right (Ent.right h)))))))
theorem an.f_imports{ps:List Per}{x:an}(h:Ent ps x.ok):Ent ps (ShF (b6.row) x.imports):=(Ent.left (Ent.right (Ent.right (Ent.right (Ent.right (Ent.right (Ent.right (Ent.right h))))))))
theorem an.f_importsA{ps:List Per}{x:an}(h:Ent ps x.ok):Ent ps (bN (fun y=>b6.ok y) x.imports.l):=(Ent.left (Ent.right (Ent.right (Ent.right (Ent.right (Ent.right (Ent.right (Ent.right (Ent.right h)))))))))
theorem an.f_slots{ps:List Per}{x:an}(h:Ent ps x.ok):Ent ps (ShF (fun z=>[.v (.int .i64 z)]) x.slots):=(Ent.left (Ent.right (Ent.right (Ent.right (Ent.right (Ent.right (Ent.right (Ent.right (Ent.right (Ent.right h))))))))))
theorem an.f_stubs{ps:List Per}{x:an}(h:Ent ps x.ok):Ent ps (ShF (fun z=>[.v (.int .i64 z)]) x.stubs):=(Ent.left (Ent.right (Ent.right (Ent.right (Ent.right (Ent.right (Ent.right (Ent.right (Ent.right (Ent.right (Ent.right h)))))))))))
theorem an.f_dyns{ps:List Per}{x:an}(h:Ent ps x.ok):Ent ps (ShF (mE.row) x.dyns):=(Ent.left (Ent.right (Ent.right (Ent.right (Ent.right (Ent.right (Ent.right (Ent.right (Ent.right (Ent.right (Ent.right (Ent.right h))))))))))))
theorem an.f_inits{ps:List Per}{x:an}(h:Ent ps x.ok):Ent ps (ShF (fun z=>[.v (.int .i64 z)]) x.inits):=(Ent.left (Ent.right (Ent.right (Ent.right (Ent.right (Ent.right (Ent.right (Ent.right (Ent.right (Ent.right (Ent.right (Ent.right (Ent.right h)))))))))))))
theorem an.f_lasts{ps:List Per}{x:an}(h:Ent ps x.ok):Ent ps (ShF (fun z=>[.v (.int .i64 z)]) x.lasts):=(Ent.left (Ent.right (Ent.right (Ent.right (Ent.right (Ent.right (Ent.right (Ent.right (Ent.right (Ent.right (Ent.right (Ent.right (Ent.right (Ent.right h))))))))))))))
theorem an.f_needs{ps:List Per}{x:an}(h:Ent ps x.ok):Ent ps (ShF (fun s=>[.v (.string s)]) x.needs):=(Ent.left (Ent.right (Ent.right (Ent.right (Ent.right (Ent.right (Ent.right (Ent.right (Ent.right (Ent.right (Ent.right (Ent.right (Ent.right (Ent.right (Ent.right h)))))))))))))))
theorem an.f_needsA{ps:List Per}{x:an}(h:Ent ps x.ok):Ent ps (bN (fun y=>ea y) x.needs.l):=(Ent.left (Ent.right (Ent.right (Ent.right (Ent.right (Ent.right (Ent.right (Ent.right (Ent.right (Ent.right (Ent.right (Ent.right (Ent.right (Ent.right (Ent.right (Ent.right h))))))))))))))))
theorem an.f_versions{ps:List Per}{x:an}(h:Ent ps x.ok):Ent ps (ShF (aN.row) x.versions):=(Ent.left (Ent.right (Ent.right (Ent.right (Ent.right (Ent.right (Ent.right (Ent.right (Ent.right (Ent.right (Ent.right (Ent.right (Ent.right (Ent.right (Ent.right (Ent.right (Ent.right h)))))))))))))))))
theorem an.f_versionsA{ps:List Per}{x:an}(h:Ent ps x.ok):Ent ps (bN (fun y=>aN.ok y) x.versions.l):=(Ent.left (Ent.right (Ent.right (Ent.right (Ent.right (Ent.right (Ent.right (Ent.right (Ent.right (Ent.right (Ent.right (Ent.right (Ent.right (Ent.right (Ent.right (Ent.right (Ent.right (Ent.right h))))))))))))))))))
theorem an.f_info{ps:List Per}{x:an}(h:Ent ps x.ok):Ent ps (cW.ok x.info):=(Ent.left (Ent.right (Ent.right (Ent.right (Ent.right (Ent.right (Ent.right (Ent.right (Ent.right (Ent.right (Ent.right (Ent.right (Ent.right (Ent.right (Ent.right (Ent.right (Ent.right (Ent.right (Ent.right h)))))))))))))))))))
theorem an.f_changes{ps:List Per}{x:an}(h:Ent ps x.ok):Ent ps (ShF (dD.row) x.changes):=(Ent.left (Ent.right (Ent.right (Ent.right (Ent.right (Ent.right (Ent.right (Ent.right (Ent.right (Ent.right (Ent.right (Ent.right (Ent.right (Ent.right (Ent.right (Ent.right (Ent.right (Ent.right (Ent.right (Ent.right h))))))))))))))))))))
theorem an.f_changesA{ps:List Per}{x:an}(h:Ent ps x.ok):Ent ps (bN (fun y=>dD.ok y) x.changes.l):=(Ent.right (Ent.right (Ent.right (Ent.right (Ent.right (Ent.right (Ent.right (Ent.right (Ent.right (Ent.right (Ent.right (Ent.right (Ent.right (Ent.right (Ent.right (Ent.right (Ent.right (Ent.right (Ent.right (Ent.right h))))))))))))))))))))
structure dP where
 do_:Int
 n:Int
 m:Int
 i:Int
 size:Int
 deriving Inhabited
abbrev dP.row(x:dP):List D:=[.v (.int .i64 x.do_),.v (.int .i64 x.n),.v (.int .i64 x.m),.v (.int .i64 x.i),.v (.int .i64 x.size)]
abbrev dP.vs(x:dP):List Value:=[.int .i64 x.do_,.int .i64 x.n,.int .i64 x.m,.int .i64 x.i,.int .i64 x.size]
abbrev dP.val(x:dP):Value:=.agg #[.int .i64 x.do_,.int .i64 x.n,.int .i64 x.m,.int .i64 x.i,.int .i64 x.size]
end Go.Proofs.YtfkcmbonmpcbfaaGreat

namespace Go.Proofs.YtfkcmbonmpcbfaaGreat
open Go.RowKit Go.Lp Go.Sy Go.Lv
theorem zb{k:Nat} : Rq Tryz.prog (k+2) 153 fun w S R=>∀ (y:bu),(y.ok).holds w S→R y.vs :=
 rqs Tryz.underlying153 (rqc (rqt Tryz.underlying9) (rqc (rqt Tryz.underlying9) (rqc (rqi Tryz.underlying3) (rqc (rqi Tryz.underlying3) (rqc (rqi Tryz.underlying3) (rqc (rqt Tryz.underlying9) (rqc (rqt Tryz.underlying9) (rqn)))))))) fun w S R h x0 o0 x1 o1 x2 w2 x3 w3 x4 w4 x5 o5 x6 o6=>h ⟨x0,x1,x2,x3,x4,x5,x6⟩ ⟨o0,o1,o5,o6⟩
theorem y8{k:Nat} : Rq Tryz.prog (k+2) 159 fun w S R=>∀ (y:bT),(y.ok).holds w S→R y.vs :=
 rqs Tryz.underlying159 (rqc (rqt Tryz.underlying9) (rqc (rqt Tryz.underlying9) (rqc (rqb Tryz.underlying4) (rqc (rqi Tryz.underlying3) (rqc (rqi Tryz.underlying3) (rqc (rqi Tryz.underlying3) (rqn))))))) fun w S R h x0 o0 x1 o1 x2 x3 w3 x4 w4 x5 w5=>h ⟨x0,x1,x2,x3,x4,x5⟩ ⟨o0,o1⟩
theorem y9{k:Nat} : Rq Tryz.prog (k+2) 155 fun w S R=>∀ (y:b6),(y.ok).holds w S→R y.vs :=
 rqs Tryz.underlying155 (rqc (rqt Tryz.underlying9) (rqc (rqt Tryz.underlying9) (rqc (rqi Tryz.underlying3) (rqc (rqb Tryz.underlying4) (rqc (rqb Tryz.underlying4) (rqn)))))) fun w S R h x0 o0 x1 o1 x2 w2 x3 x4=>h ⟨x0,x1,x2,x3,x4⟩ ⟨o0,o1⟩
theorem adk{k:Nat} : Rq Tryz.prog (k+2) 157 fun w S R=>∀ (y:mE),(Fa True).holds w S→R y.vs :=
 rqs Tryz.underlying157 (rqc (rqi Tryz.underlying3) (rqc (rqi Tryz.underlying3) (rqc (rqi Tryz.underlying3) (rqc (rqi Tryz.underlying3) (rqn))))) fun w S R h x0 w0 x1 w1 x2 w2 x3 w3=>h ⟨x0,x1,x2,x3⟩ trivial
theorem pM{k:Nat} : Rq Tryz.prog (k+3) 195 fun w S R=>∀ (y:aN),(y.ok).holds w S→R y.vs :=
 rqs Tryz.underlying195 (rqc (rqt Tryz.underlying9) (rqc (adU Tryz.underlying28 Tryz.underlying9) (rqn))) fun w S R h x0 o0 x1 o1 a1=>h ⟨x0,x1⟩ ⟨o0,o1,a1⟩
theorem ab8{k:Nat} : Rq Tryz.prog (k+2) 218 fun w S R=>∀ (y:fo),(y.ok).holds w S→R y.vs :=
 rqs Tryz.underlying218 (rqc (rqt Tryz.underlying9) (rqc (rqi Tryz.underlying3) (rqc (rqi Tryz.underlying3) (rqc (rqi Tryz.underlying3) (rqn))))) fun w S R h x0 o0 x1 w1 x2 w2 x3 w3=>h ⟨x0,x1,x2,x3⟩ o0
theorem ab7{k:Nat} : Rq Tryz.prog (k+2) 220 fun w S R=>∀ (y:fl),(y.ok).holds w S→R y.vs :=
 rqs Tryz.underlying220 (rqc (rqi Tryz.underlying3) (rqc (rqi Tryz.underlying3) (rqc (rqt Tryz.underlying9) (rqc (rqi Tryz.underlying3) (rqn))))) fun w S R h x0 w0 x1 w1 x2 o2 x3 w3=>h ⟨x0,x1,x2,x3⟩ o2
theorem ab9{k:Nat} : Rq Tryz.prog (k+2) 222 fun w S R=>∀ (y:bt),(Fa True).holds w S→R y.vs :=
 rqs Tryz.underlying222 (rqc (rqi Tryz.underlying3) (rqc (rqi Tryz.underlying3) (rqn))) fun w S R h x0 w0 x1 w1=>h ⟨x0,x1⟩ trivial
theorem za{k:Nat} : Rq Tryz.prog (k+2) 262 fun w S R=>∀ (y:cJ),(y.ok).holds w S→R y.vs :=
 rqs Tryz.underlying262 (rqc (rqi Tryz.underlying3) (rqc (rqi Tryz.underlying3) (rqc (rqi Tryz.underlying3) (rqc (rqt Tryz.underlying9) (rqc (rqt Tryz.underlying9) (rqc (rqi Tryz.underlying3) (rqn))))))) fun w S R h x0 w0 x1 w1 x2 w2 x3 o3 x4 o4 x5 w5=>h ⟨x0,x1,x2,x3,x4,x5⟩ ⟨o3,o4⟩
theorem adl{k:Nat} : Rq Tryz.prog (k+2) 268 fun w S R=>∀ (y:ga),(y.ok).holds w S→R y.vs :=
 rqs Tryz.underlying268 (rqc (rqi Tryz.underlying3) (rqc (rqi Tryz.underlying3) (rqc (rqi Tryz.underlying3) (rqc (rqt Tryz.underlying9) (rqc (rqi Tryz.underlying3) (rqc (rqi Tryz.underlying3) (rqn))))))) fun w S R h x0 w0 x1 w1 x2 w2 x3 o3 x4 w4 x5 w5=>h ⟨x0,x1,x2,x3,x4,x5⟩ o3
theorem aa2{k:Nat} : Rq Tryz.prog (k+2) 274 fun w S R=>∀ (y:dH),(Fa True).holds w S→R y.vs :=
 rqs Tryz.underlying274 (rqc (rqi Tryz.underlying3) (rqc (rqi Tryz.underlying3) (rqc (rqi Tryz.underlying3) (rqc (rqi Tryz.underlying3) (rqn))))) fun w S R h x0 w0 x1 w1 x2 w2 x3 w3=>h ⟨x0,x1,x2,x3⟩ trivial
theorem ab6{k:Nat} : Rq Tryz.prog (k+4) 37 fun w S R=>∀ (y:cW),(y.ok).holds w S→R y.vs :=
 rqs Tryz.underlying37 (rqc (rql (C:=fun _=>True) Tryz.underlying30 (fun _=>rfl) (ab8.mono fun w S R h y a=>h y a trivial)) (rqc (rql (C:=fun _=>True) Tryz.underlying31 (fun _=>rfl) (ab7.mono fun w S R h y a=>h y a trivial)) (rqc (rql (C:=fun _=>True) Tryz.underlying32 (fun _=>rfl) (ab9.mono fun w S R h y a=>h y a trivial)) (rqc (rql (C:=fun _=>True) Tryz.underlying33 (fun _=>rfl) (za.mono fun w S R h y a=>h y a trivial)) (rqc (rql (C:=fun _=>True) Tryz.underlying34 (fun _=>rfl) (adl.mono fun w S R h y a=>h y a trivial)) (rqc (rql (C:=fun _=>True) Tryz.underlying35 (fun _=>rfl) (aa2.mono fun w S R h y a=>h y a trivial)) (rqn))))))) fun w S R h x0 o0 a0 _ x1 o1 a1 _ x2 o2 a2 _ x3 o3 a3 _ x4 o4 a4 _ x5 o5 a5 _=>h ⟨x0,x1,x2,x3,x4,x5⟩ ⟨o0,a0,o1,a1,o2,o3,a3,o4,a4,o5⟩
theorem aa4{k:Nat} : Rq Tryz.prog (k+2) 209 fun w S R=>∀ (y:eQ),(Fa True).holds w S→R y.vs :=
 rqs Tryz.underlying209 (rqc (rqi Tryz.underlying3) (rqc (rqi Tryz.underlying3) (rqc (rqi Tryz.underlying3) (rqn)))) fun w S R h x0 w0 x1 w1 x2 w2=>h ⟨x0,x1,x2⟩ trivial
theorem ab5{k:Nat} : Rq Tryz.prog (k+4) 204 fun w S R=>∀ (y:dD),(y.ok).holds w S→R y.vs :=
 rqs Tryz.underlying204 (rqc (rqt Tryz.underlying9) (rqc (rqt Tryz.underlying9) (rqc (rqt Tryz.underlying9) (rqc (rql (C:=fun _=>True) Tryz.underlying202 (fun _=>rfl) (aa4.mono fun w S R h y a=>h y a trivial)) (rqc (rqi Tryz.underlying3) (rqn)))))) fun w S R h x0 o0 x1 o1 x2 o2 x3 o3 a3 _ x4 w4=>h ⟨x0,x1,x2,x3,x4⟩ ⟨o0,o1,o2,o3⟩
theorem aa3{k:Nat} : Rq Tryz.prog (k+6) 40 fun w S R=>∀ (y:an),(y.ok).holds w S→(I64 y.code∧I64 y.data∧I64 y.zero∧I64 y.block∧I64 y.entry)→R y.vs :=
 rqs Tryz.underlying40 (rqc (rqt Tryz.underlying9) (rqc (rqb Tryz.underlying4) (rqc (rqi Tryz.underlying3) (rqc (rqi Tryz.underlying3) (rqc (rqi Tryz.underlying3) (rqc (rqt Tryz.underlying9) (rqc (rqt Tryz.underlying9) (rqc (rqi Tryz.underlying3) (rqc (rql (C:=fun _=>True) Tryz.underlying23 (fun _=>rfl) (zb.mono fun w S R h y a=>h y a trivial)) (rqc (rql (C:=fun _=>True) Tryz.underlying24 (fun _=>rfl) (y8.mono fun w S R h y a=>h y a trivial)) (rqc (rql (C:=fun _=>True) Tryz.underlying25 (fun _=>rfl) (y9.mono fun w S R h y a=>h y a trivial)) (rqc (aca Tryz.underlying26 Tryz.underlying3) (rqc (aca Tryz.underlying26 Tryz.underlying3) (rqc (rql (C:=fun _=>True) Tryz.underlying27 (fun _=>rfl) (adk.mono fun w S R h y a=>h y a trivial)) (rqc (aca Tryz.underlying26 Tryz.underlying3) (rqc (aca Tryz.underlying26 Tryz.underlying3) (rqc (rqi Tryz.underlying3) (rqc (adU Tryz.underlying28 Tryz.underlying9) (rqc (rql (C:=fun _=>True) Tryz.underlying29 (fun _=>rfl) (pM.mono fun w S R h y a=>h y a trivial)) (rqc (ab6) (rqc (rql (C:=fun _=>True) Tryz.underlying38 (fun _=>rfl) (ab5.mono fun w S R h y a=>h y a trivial)) (rqn)))))))))))))))))))))) fun w S R h x0 o0 x1 x2 w2 x3 w3 x4 w4 x5 o5 x6 o6 x7 w7 x8 o8 a8 _ x9 o9 a9 _ x10 o10 a10 _ x11 o11 x12 o12 x13 o13 a13 _ x14 o14 x15 o15 x16 w16 x17 o17 a17 x18 o18 a18 _ x19 o19 x20 o20 a20 _=>h ⟨x0,x1,x2,x3,x4,x5,x6,x7,x8,x9,x10,x11,x12,x13,x14,x15,x16,x17,x18,x19,x20⟩ ⟨o0,o5,o6,o8,a8,o9,a9,o10,a10,o11,o12,o13,o14,o15,o17,a17,o18,a18,o19,o20,a20⟩ ⟨w2,w3,w4,w7,w16⟩
theorem aa1{k:Nat} : Rq Tryz.prog (k+2) 61 fun w S R=>∀ (y:dP),(Fa True).holds w S→(I64 y.do_∧I64 y.n∧I64 y.m∧I64 y.i∧I64 y.size)→R y.vs :=
 rqs Tryz.underlying61 (rqc (rqi Tryz.underlying3) (rqc (rqi Tryz.underlying3) (rqc (rqi Tryz.underlying3) (rqc (rqi Tryz.underlying3) (rqc (rqi Tryz.underlying3) (rqn)))))) fun w S R h x0 w0 x1 w1 x2 w2 x3 w3 x4 w4=>h ⟨x0,x1,x2,x3,x4⟩ trivial ⟨w0,w1,w2,w3,w4⟩
end Go.Proofs.YtfkcmbonmpcbfaaGreat

namespace Go.Sy
open Go.RowKit Go.Lp Go.MapKept
structure eC {α:Type} (P:Program) (kt:TypeId) (κ:α→Value):Prop where
 inj:∀ a b,κ a=κ b→a=b
 check:∀ (w:World) (em:Bool) (a:α),(Instr.checkKey em 10000 kt (κ a)).run P w=.ok () w
 find:∀ (w:World) (x:α) (es:List MapEntry),(∀ e∈es,∃ a,e.key=κ a) →
   ((Instr.findKey kt (κ x) es).run P w=.ok none w∧∀ e∈es,e.key≠κ x)∨∃ j e,(Instr.findKey kt (κ x) es).run P w=.ok (some (j,e.val)) w∧es[j]? = some e∧e.key=κ x
 stays:∀ (w:World) (a:α),(Instr.keyThatStays (κ a) (κ a)).run P w=.ok (κ a) w
theorem mu{α:Type}{P:Program}{kt:TypeId}{d:TypeDesc}{κ:α→Value}(hd:P.underlying kt=some d)(hk:∀ a,IsKey d (κ a))(inj:∀ a b,κ a=κ b→a=b):eC P kt κ where
 inj:=inj
 check w em a:=run_checkKey hd (hk a) em 9999
 find w x es hes:=by
   rcases findNow_spec (hk x) es 0 (fun e he=>by obtain ⟨a,ha⟩:=hes e he;rw [ha];exact hk a) with ⟨h1,h2⟩ | ⟨j,e,h1,h2,h3⟩
   · exact .inl ⟨run_findKey hd h1,h2⟩
   · exact .inr ⟨j,e,by rw [Nat.zero_add] at h1;exact run_findKey hd h1,h2,h3⟩
 stays w a:=run_keyThatStays (hk a)
theorem ac6{P:Program}{kt:TypeId}(hd:P.underlying kt=some .string):eC P kt (fun s:ByteArray=>Value.string s):=mu hd (fun _=>trivial) (fun _ _ h=>by injection h)
theorem aau{P:Program}{kt:TypeId}(hd:P.underlying kt=some (.int .i64)):eC P kt (fun z:Int=>Value.int .i64 z):=mu hd (fun _=>rfl) (fun _ _ h=>by injection h)
section
variable {α β:Type}
structure k5 (κ:α→Value) (ν:β→Value) (m:α→Option β) (es:List MapEntry):Prop where
 of:∀ e∈es,∃ a v,e.key=κ a∧e.val=ν v∧m a=some v
 mem:∀ a v,m a=some v→∃ e∈es,e.key=κ a∧e.val=ν v
 apart:es.Pairwise fun e e'=>e.key≠e'.key
def cr(b:Nat)(κ:α→Value)(ν:β→Value)(m:α→Option β):Res :=
 ⟨fun w _ F=>(∃ es clock,w.heap[b]? = some (.map es clock)∧k5 κ ν m es.toList∧Stamped es clock)∧∀ k,F k↔k=b,fun ⟨⟨es,clock,h,he⟩,hF⟩ h1 _ _=>⟨⟨es,clock,(h1 b ((hF b).2 rfl)).trans h,he⟩,hF⟩⟩
def bw[DecidableEq α](m:α→Option β)(k:α)(v:β):α→Option β:=fun a=>if a=k then some v else m a
variable {κ:α→Value} {ν:β→Value} {m:α→Option β} {P:Program} {kt:TypeId}
theorem k5.put[DecidableEq α](K:eC P kt κ){es:Array MapEntry}(h:k5 κ ν m es.toList)(k:α)(v:β){clock:Nat}(h0:∀ e∈es.toList,e.key≠κ k):k5 κ ν (bw m k v) (es.push { key:=κ k,val:=ν v,born:=clock }).toList where
 of e he:=by
   rw [Array.toList_push,List.mem_append,List.mem_singleton] at he
   rcases he with he | rfl
   · obtain ⟨a,u,h1,h2,h3⟩:=h.of e he
     refine ⟨a,u,h1,h2,?_⟩
     have:a≠k:=fun e'=>h0 e he (by rw [h1,e'])
     simp [bw,this,h3]
   · exact ⟨k,v,rfl,rfl,by simp [bw]⟩
 mem a u ha:=by
   unfold bw at ha
   split at ha
   · rename_i hak
     simp only [Option.some.injEq] at ha
     subst hak ha
     exact ⟨_,by rw [Array.toList_push];exact List.mem_append_right _ (List.mem_singleton.2 rfl),rfl,rfl⟩
   · obtain ⟨e,he,h1,h2⟩:=h.mem a u ha
     exact ⟨e,by rw [Array.toList_push];exact List.mem_append_left _ he,h1,h2⟩
 apart:=by
   rw [Array.toList_push,List.pairwise_append]
   exact ⟨h.apart,List.pairwise_singleton _ _,fun e he e' he'=>by rw [List.mem_singleton.1 he'];exact h0 e he⟩
theorem k5.turn[DecidableEq α](K:eC P kt κ){es:Array MapEntry}(h:k5 κ ν m es.toList)(k:α)(v:β){j:Nat}{e0:MapEntry}(hj:es.toList[j]? = some e0)(h0:e0.key=κ k) :
   k5 κ ν (bw m k v) (es.modify j fun e => { e with key:=κ k,val:=ν v }).toList:=by
 have hjl:j<es.toList.length:=(List.getElem?_eq_some_iff.1 hj).1
 have hg:∀ i,(es.modify j fun e => { e with key:=κ k,val:=ν v }).toList[i]? = if i=j then some { e0 with key:=κ k,val:=ν v } else es.toList[i]? := fun i=>by
   rw [Array.getElem?_toList,Array.getElem?_modify]
   by_cases hij:i=j
   · subst hij
     rw [if_pos rfl,if_pos rfl,← Array.getElem?_toList,hj];rfl
   · rw [if_neg hij,if_neg (Ne.symm hij),Array.getElem?_toList]
 have hpw:=List.pairwise_iff_getElem.1 h.apart
 have hne:∀ i e,es.toList[i]? = some e→i≠j→e.key≠κ k:=fun i e hi hij hk=>by
   obtain ⟨hil,rfl⟩:=List.getElem?_eq_some_iff.1 hi
   obtain ⟨_,rfl⟩:=List.getElem?_eq_some_iff.1 hj
   rcases Nat.lt_or_gt_of_ne hij with hlt | hlt
   · exact hpw i j hil hjl hlt (by rw [hk,h0])
   · exact hpw j i hjl hil hlt (by rw [hk,h0])
 refine ⟨fun e he => ?_,fun a u ha => ?_,?_⟩
 · obtain ⟨i,hi⟩:=List.mem_iff_getElem?.1 he
   rw [hg] at hi
   split at hi
   · simp only [Option.some.injEq] at hi
     subst hi
     exact ⟨k,v,rfl,rfl,by simp [bw]⟩
   · rename_i hij
     obtain ⟨a,u,h1,h2,h3⟩:=h.of e (List.mem_of_getElem? hi)
     refine ⟨a,u,h1,h2,?_⟩
     have:a≠k:=fun e'=>hne i e hi hij (by rw [h1,e'])
     simp [bw,this,h3]
 · unfold bw at ha
   split at ha
   · rename_i hak
     simp only [Option.some.injEq] at ha
     subst hak ha
     exact ⟨_,List.mem_of_getElem? (by rw [hg,if_pos rfl]),rfl,rfl⟩
   · rename_i hak
     obtain ⟨e,he,h1,h2⟩:=h.mem a u ha
     obtain ⟨i,hi⟩:=List.mem_iff_getElem?.1 he
     have hij:i≠j:=fun hij=>by
       rw [hij,hj] at hi
       simp only [Option.some.injEq] at hi
       subst hi
       exact hak (K.inj _ _ (by rw [← h1,h0]))
     exact ⟨e,List.mem_of_getElem? (i:=i) (by rw [hg,if_neg hij,hi]),h1,h2⟩
 · rw [List.pairwise_iff_getElem]
   intro i i' hi hi' hlt
   have l1:=List.getElem?_eq_getElem hi
   have l2:=List.getElem?_eq_getElem hi'
   rw [hg] at l1 l2
   split at l1
   · rename_i hij
     rw [if_neg (by omega)] at l2
     simp only [Option.some.injEq] at l1
     rw [← l1]
     exact fun e=>hne i' _ l2 (by omega) e.symm
   · rename_i hij
     split at l2
     · simp only [Option.some.injEq] at l2
       rw [← l2]
       exact hne i _ l1 hij
     · obtain ⟨q1,e1⟩:=List.getElem?_eq_some_iff.1 l1
       obtain ⟨q2,e2⟩:=List.getElem?_eq_some_iff.1 l2
       rw [← e1,← e2]
       exact hpw i i' q1 q2 hlt
variable {n:Fr} {env:Env} {ps:List Per} {hp:List Res} {ty:TypeId} {pos:String} {af:Array Edge} {gd:Option (Nat × Bool)} {K:Sta→Prop} {d:Option Tmp} {q:Bool}
theorem dU{t:Nat}{T:TypeId}(κ:α→Value)(ν:β→Value)(ht:fits n (some t)=true)(hK:∀ b,K ⟨(t,true,.map (some b))::env,ps,hp++[cr b κ ν fun _=>none]⟩) :
   Eff P n ⟨some t,.makeMap T none,ty,pos,af,gd⟩ ⟨env,ps,hp⟩ q K:=.push fun w S fp a hst he hn=>by
 have:(execOp a.eval ⟨some t,.makeMap T none,ty,pos,af,gd⟩).run P w=.ok (.value (.map (some w.heap.size))) (w.alloc (.map #[] 0)):=by
   show ((Instr.makeMap T none).bind fun r=>Sem.pure (Next.value r)).run P w=_
   rw [Sem.run_bind']
   have:(Instr.makeMap T none).run P w=.ok (.map (some w.heap.size)) (w.alloc (.map #[] 0)):=by
     simp [Instr.makeMap,Sem.run_bind,Result.andThen,newObj,Sem.run]
   rw [this];rfl
 rw [this]
 refine ⟨cr w.heap.size κ ν fun _=>none,fun b=>b=w.heap.size,_,hK w.heap.size,rfl,rfl,he.put (g:=true) (by rw [hn];simpa [fits] using ht) _,dR _ _,⟨⟨#[],0,gw _ _,⟨fun e he=>(by simp at he),fun a v h=>(by cases h),List.Pairwise.nil⟩,stamped_empty 0⟩,fun _=>Iff.rfl⟩,fun b hb => ?_⟩
 subst hb
 exact ⟨Nat.le_refl _,by rw [World.size_alloc];omega⟩
theorem cO[DecidableEq α]{T E:TypeId}{x y z:Operand}{b:Nat}{k:α}{v:β}(i:Nat)(hT:P.underlying T=some (.map kt E))(KO:eC P kt κ)(hx:ev env x=some (true,.map (some b)))(hy:ev env y=some (true,κ k))(hz:ev env z=some (true,ν v))(hi:hp[i]? = some (cr b κ ν m))
   (hK:K ⟨env,ps,hp.set i (cr b κ ν (bw m k v))⟩):Eff P n ⟨none,.mapUpdate T x y z,ty,pos,af,gd⟩ ⟨env,ps,hp⟩ false K:=.change i hi fun w S fp a hst he hn ⟨⟨es,clock,hb,hes,hsm⟩,hF⟩=>by
 have h1:=he.val hx rfl
 have h2:=he.val hy rfl
 have h3:=he.val hz rfl
 have key:∃ es' clock',(Instr.mapUpdate T (.map (some b)) (κ k) (ν v)).run P w=.ok () (w.putObj b (.map es' clock'))∧k5 κ ν (bw m k v) es'.toList∧Stamped es' clock':=by
   rcases KO.find w k es.toList (fun e he=>let ⟨a,_,h,_⟩:=hes.of e he; ⟨a,h⟩) with ⟨f1,f2⟩ | ⟨j,e0,f1,f2,f3⟩
   · refine ⟨es.push { key:=κ k,val:=ν v,born:=clock },clock+1,?_,hes.put KO k v f2,stamped_push hsm f2⟩
     simp only [Instr.mapUpdate,Sem.run_bind,run_underlying hT,Result.andThen,Go.MapKept.run_getObj_map hb,KO.check,f1,Go.MapKept.run_setObj_map _ hb]
     rfl
   · refine ⟨es.modify j fun e => { e with key:=κ k,val:=ν v },clock,?_,hes.turn KO k v f2 f3,stamped_modify hsm j _ (fun _ _=>rfl) (fun e he h=>by rw [← Array.getElem?_toList,f2] at h;obtain rfl:=Option.some.inj h;exact f3.symm)⟩
     have f2':es[j]? = some e0:=by rw [← Array.getElem?_toList];exact f2
     simp only [Instr.mapUpdate,Sem.run_bind,run_underlying hT,Result.andThen,Go.MapKept.run_getObj_map hb,KO.check,f1,f2',Option.map_some,Option.getD_some,f3,KO.stays,Go.MapKept.run_setObj_map _ hb]
     rfl
 obtain ⟨es',clock',hrun,hes'⟩:=key
 have:(execOp a.eval ⟨none,.mapUpdate T x y z,ty,pos,af,gd⟩).run P w=.ok .skip (w.putObj b (.map es' clock')):=by
   unfold execOp;dsimp only;rw [h1,h2,h3]
   show ((Instr.mapUpdate T (.map (some b)) (κ k) (ν v)).bind fun _=>Sem.pure Next.skip).run P w=_
   rw [Sem.run_bind',hrun];rfl
 rw [this]
 have hbl:=(Array.getElem?_eq_some_iff.1 hb).1
 exact ⟨cr b κ ν (bw m k v),_,hK,rfl,rfl,he,⟨⟨es',clock',World.putObj_heap_same hbl,hes'⟩,hF⟩,rfl,rfl,⟨rfl,rfl⟩,by rw [World.putObj_size];exact Nat.le_refl _,fun b' _ hb'=>World.putObj_heap_other (fun e=>hb' ((hF b').2 e))⟩
theorem tU{T E:TypeId}{x y:Operand}{b:Nat}{k:α}{v0:β}(i:Nat)(ok:Bool)(hT:P.underlying T=some (.map kt E))(KO:eC P kt κ)(hz:(P.info? E).bind (·.zero)=some (ν v0))(hx:ev env x=some (true,.map (some b)))(hy:ev env y=some (true,κ k))(hi:hp[i]? = some (cr b κ ν m)) :
   Quiet P n ⟨d,.lookup T x y ok,ty,pos,af,gd⟩ ⟨env,ps,hp⟩ (bif ok then .tuple #[ν ((m k).getD v0),.bool (m k).isSome] else ν ((m k).getD v0)):=fun w S fp a hst he hn=>by
 have h1:=he.val hx rfl
 have h2:=he.val hy rfl
 obtain ⟨⟨es,clock,hb,hes,_⟩,hF⟩:=hst.res i _ hi
 have hzr:(zeroValue E).run P w=.ok (ν v0) w:=by
   cases hE:P.info? E with
   | none=>rw [hE] at hz;cases hz
   | some it =>
     rw [hE,Option.bind_some] at hz
     simp [zeroValue,typeInfo,hE,hz]
 have hrun:(Instr.lookup T (.map (some b)) (κ k) ok).run P w=.ok (bif ok then .tuple #[ν ((m k).getD v0),.bool (m k).isSome] else ν ((m k).getD v0)) w:=by
   rcases KO.find w k es.toList (fun e he=>let ⟨a,_,h,_⟩:=hes.of e he; ⟨a,h⟩) with ⟨f1,f2⟩ | ⟨j,e0,f1,f2,f3⟩
   · have hm:m k=none:=by
       cases hmk:m k with
       | none=>rfl
       | some u=>obtain ⟨e,he,g1,_⟩:=hes.mem k u hmk;exact (f2 e he g1).elim
     rw [hm]
     simp only [Instr.lookup,Sem.run_bind,run_underlying hT,Result.andThen,Go.MapKept.run_getObj_map hb,KO.check,f1,hzr,Sem.run_pure]
     cases ok<;>rfl
   · obtain ⟨a,u,g1,g2,g3⟩:=hes.of e0 (List.mem_of_getElem? f2)
     obtain rfl:a=k:=KO.inj _ _ (by rw [← g1,f3])
     rw [g3]
     simp only [Instr.lookup,Sem.run_bind,run_underlying hT,Result.andThen,Go.MapKept.run_getObj_map hb,KO.check,f1,Sem.run_pure,g2]
     cases ok<;>rfl
 have:(execOp a.eval ⟨d,.lookup T x y ok,ty,pos,af,gd⟩).run P w=.ok (.value (bif ok then .tuple #[ν ((m k).getD v0),.bool (m k).isSome] else ν ((m k).getD v0))) w:=by
   unfold execOp;dsimp only;rw [h1,h2]
   show ((Instr.lookup T (.map (some b)) (κ k) ok).bind fun r=>Sem.pure (Next.value r)).run P w=_
   rw [Sem.run_bind',hrun];rfl
 rw [this];exact bB _ _
theorem gQ{T E:TypeId}{x y:Operand}{b:Nat}{k:α}{v0:β}(i:Nat)(hT:P.underlying T=some (.map kt E))(KO:eC P kt κ)(hz:(P.info? E).bind (·.zero)=some (ν v0))(hx:ev env x=some (true,.map (some b)))(hy:ev env y=some (true,κ k))(hi:hp[i]? = some (cr b κ ν m)) :
   Quiet P n ⟨d,.lookup T x y false,ty,pos,af,gd⟩ ⟨env,ps,hp⟩ (ν ((m k).getD v0)):=tU i false hT KO hz hx hy hi
theorem ja{T E:TypeId}{x y:Operand}{b:Nat}{k:α}{v0:β}(i:Nat)(hT:P.underlying T=some (.map kt E))(KO:eC P kt κ)(hz:(P.info? E).bind (·.zero)=some (ν v0))(hx:ev env x=some (true,.map (some b)))(hy:ev env y=some (true,κ k))(hi:hp[i]? = some (cr b κ ν m)) :
   Quiet P n ⟨d,.lookup T x y true,ty,pos,af,gd⟩ ⟨env,ps,hp⟩ (.tuple #[ν ((m k).getD v0),.bool (m k).isSome]):=tU i true hT KO hz hx hy hi
end
open Go.ChangeMaps (setBlock)
section
variable {α β:Type} {κ:α→Value} {ν:β→Value} {m:α→Option β} {P:Program} {kt:TypeId}
def ItR(b r:Nat)(κ:α→Value)(ν:β→Value)(m:α→Option β)(N:Nat)(seen:List α):Res :=
 ⟨fun w _ F=>(b≠r∧∃ (es:Array MapEntry) (clock:Nat) (sb:Array Nat) (L:List MapEntry),w.heap[b]? = some (.map es clock)∧k5 κ ν m es.toList∧Stamped es clock∧es.size=N∧w.heap[r]? = some (.mapIter (some b) clock sb clock) ∧
     (∀ e∈L,e∈es.toList)∧L.map (·.key)=seen.map κ∧sb.toList=(L.map (·.born)).reverse∧L.Nodup)∧∀ k,F k↔k=b∨k=r,
  fun ⟨⟨hne,es,clock,sb,L,h,he,hs,hN,hr,h1,h2,h3,h4⟩,hF⟩ k1 _ _=>⟨⟨hne,es,clock,sb,L,(k1 b ((hF b).2 (.inl rfl))).trans h,he,hs,hN,(k1 r ((hF r).2 (.inr rfl))).trans hr,h1,h2,h3,h4⟩,hF⟩⟩
variable {n:Fr} {env:Env} {ps:List Per} {hp:List Res} {ty:TypeId} {pos:String} {af:Array Edge} {gd:Option (Nat × Bool)} {K:Sta→Prop} {d:Option Tmp}
theorem rC{t:Nat}{T E:TypeId}{x:Operand}{b:Nat}(i:Nat)(hT:P.underlying T=some (.map kt E))(hx:ev env x=some (true,.map (some b)))(hi:hp[i]? = some (cr b κ ν m))(ht:fits n (some t)=true)
   (hK:∀ r N,K ⟨(t,true,.pointer (some ⟨r,0,none⟩))::env,ps,hp.set i (ItR b r κ ν m N [])⟩) :
   Eff P n ⟨some t,.range T x,ty,pos,af,gd⟩ ⟨env,ps,hp⟩ false K:=fun w S fp a hst he hn=>by
 have hil:=(List.getElem?_eq_some_iff.1 hi).1
 have h1:=he.val hx rfl
 obtain ⟨⟨es,clock,hb,hes,hsm⟩,hF⟩:=hst.res i _ hi
 have hbl:=(Array.getElem?_eq_some_iff.1 hb).1
 have:(execOp a.eval ⟨some t,.range T x,ty,pos,af,gd⟩).run P w=.ok (.value (.pointer (some ⟨w.heap.size,0,none⟩))) (w.alloc (.mapIter (some b) clock #[] clock)):=by
   unfold execOp;dsimp only;rw [h1]
   show ((Instr.range T (.map (some b))).bind fun r=>Sem.pure (Next.value r)).run P w=_
   rw [Sem.run_bind',run_range_map w T kt E b es clock hT hb];rfl
 rw [this]
 have hbel:Below w.heap.size w (w.alloc (.mapIter (some b) clock #[] clock)):=dR _ _
 refine ⟨_,S,_,hK w.heap.size es.size,hst.change2 hil hbel.size (fun b' hb' _=>hbel.block b' hb') (ItR b w.heap.size κ ν m es.size []) (fun k=>k=b∨k=w.heap.size)
     ⟨⟨by omega,es,clock,#[],[],by rw [hbel.block b hbl];exact hb,hes,hsm,rfl,gw _ _,by simp,rfl,rfl,List.nodup_nil⟩,fun _=>Iff.rfl⟩ (fun b' hb' => ?_),
   he.put (g:=true) (by rw [hn];simpa [fits] using ht) _,Evo.of_below _ _ hbel,fun b' hb' => ?_,fun h=>by cases h⟩
 · rcases hb' with rfl | rfl
   · exact ⟨.inl ((hF b').2 rfl),by rw [World.size_alloc];omega⟩
   · exact ⟨.inr (Nat.le_refl _),by rw [World.size_alloc];omega⟩
 · obtain ⟨j,hj,hb'⟩:=hb'
   have hj':j<hp.length:=by simpa using hj
   by_cases hji:j=i
   · subst hji
     simp only [if_pos] at hb'
     rcases hb' with rfl | rfl
     · exact .inl ⟨j,hj',(hF b').2 rfl⟩
     · exact .inr (Nat.le_refl _)
   · simp only [if_neg hji] at hb';exact .inl ⟨j,hj',hb'⟩
theorem rE{l:List MapEntry}(h:l.Pairwise fun e e'=>e.key≠e'.key){x y:MapEntry}(hx:x∈l)(hy:y∈l)(he:x.key=y.key):x=y:=entry_eq_of_key h hx hy he
theorem lM{γ:Type} : ∀ {l m:List γ},l.Nodup→(∀ x∈l,x∈m)→l.length≤m.length
 | [],_,_,_=>Nat.zero_le _
 | a::l,m,h,hs=>by
   classical
   have ha:=hs a List.mem_cons_self
   rw [List.nodup_cons] at h
   have h2:∀ x∈l,x∈m.erase a:=fun x hx=>(List.mem_erase_of_ne (fun (e:x=a)=>h.1 (by rw [← e];exact hx))).2 (hs x (List.mem_cons_of_mem _ hx))
   have:=lM h.2 h2
   rw [List.length_erase_of_mem ha] at this
   have hp:=List.length_pos_of_mem ha
   simp only [List.length_cons];omega
theorem vz{t:Nat}{x:Operand}{b r N:Nat}{seen:List α}(i:Nat)(KO:eC P kt κ)(hx:ev env x=some (true,.pointer (some ⟨r,0,none⟩)))(hi:hp[i]? = some (ItR b r κ ν m N seen))(ht:fits n (some t)=true)
   (h0:(∀ a v,m a=some v→a∈seen)→K ⟨(t,true,.tuple #[.bool false])::env,ps,hp⟩)
   (h1:∀ a v,m a=some v→a ∉ seen→seen.length<N→K ⟨(t,true,.tuple #[.bool true,κ a,ν v])::env,ps,hp.set i (ItR b r κ ν m N (a::seen))⟩) :
   Eff P n ⟨some t,.next x false,ty,pos,af,gd⟩ ⟨env,ps,hp⟩ false K:=fun w S fp a hst he hn=>by
 have hil:=(List.getElem?_eq_some_iff.1 hi).1
 have hxv:=he.val hx rfl
 obtain ⟨⟨hne,es,clock,sb,L,hb,hes,hsm,hN,hr,hL,hk,hsb,hnd⟩,hF⟩:=hst.res i _ hi
 have hst2:=(stamped_iff es clock).1 hsm
 have hbl:=(Array.getElem?_eq_some_iff.1 hb).1
 have hrl:=(Array.getElem?_eq_some_iff.1 hr).1
 have hsee:∀ e∈es.toList,sb.contains e.born=true↔e∈L:=fun e hee=>by
   rw [Array.contains_iff_mem,← Array.mem_toList_iff,hsb,List.mem_reverse,List.mem_map]
   constructor
   · rintro ⟨e',h1,h2⟩
     rw [← born_inj hst2.2.1 (hL e' h1) hee h2];exact h1
   · exact fun h=>⟨e,h,rfl⟩
 have hex:(execOp a.eval ⟨some t,.next x false,ty,pos,af,gd⟩)=(Instr.next (.pointer (some ⟨r,0,none⟩)) false ty).bind fun r=>Sem.pure (Next.value r):=by
   unfold execOp;dsimp only;rw [hxv];rfl
 rw [hex,Sem.run_bind']
 rcases run_next_at (P:=P) w ty r b clock clock sb es clock hr hb hst2.1 (Nat.le_refl _) with ⟨hz,hrun⟩ | ⟨e,hee,w1,hal,hrun⟩
 · rw [hrun]
   refine ⟨_,S,fp,h0 (fun k v hkv => ?_),hst,he.put (g:=true) (by rw [hn];simpa [fits] using ht) _,Evo.refl _ _ _,fun _ h=>.inl h,fun h=>by cases h⟩
   obtain ⟨e,hem,e1,_⟩:=hes.mem k v hkv
   have hin:=(hsee e hem).1 (all_seen es sb hz e hem)
   have:κ k∈seen.map κ:=by rw [← hk,← e1];exact List.mem_map_of_mem hin
   obtain ⟨k',h1,h2⟩:=List.mem_map.1 this
   rw [← KO.inj _ _ h2];exact h1
 · rw [hrun]
   obtain ⟨hem,hns⟩:=mem_left hee
   obtain ⟨k,v,e1,e2,e3⟩:=hes.of e hem
   have hnL:e ∉ L:=fun h=>by rw [(hsee e hem).2 h] at hns;cases hns
   have hks:k ∉ seen:=fun h=>by
     have:κ k∈L.map (·.key):=by rw [hk];exact List.mem_map_of_mem h
     obtain ⟨e',h1,h2⟩:=List.mem_map.1 this
     exact hnL (by rw [← rE hes.apart (hL e' h1) hem (h2.trans e1.symm)];exact h1)
   have hlen:(e::L).length≤es.toList.length:=lM (List.nodup_cons.2 ⟨hnL,hnd⟩) fun x hx=>by
     rcases List.mem_cons.1 hx with rfl | hx
     · exact hem
     · exact hL x hx
   have hsl:L.length=seen.length:=by simpa using congrArg List.length hk
   have hr1:w1.heap=w.heap:=by rcases hal with rfl | rfl<;>rfl
   have hw:w1.os=w.os∧w1.tape=w.tape∧w1.output=w.output:=by rcases hal with rfl | rfl<;>exact ⟨rfl,rfl,rfl⟩
   have hset:=heap_set (o':=.mapIter (some b) clock (sb.push e.born) clock) (w:=w1) (hr1 ▸ hr)
   have hsz:(setBlock w1 r (.mapIter (some b) clock (sb.push e.born) clock)).heap.size=w.heap.size:=by simp [setBlock,hr1]
   have hold:∀ b',b'≠r→(setBlock w1 r (.mapIter (some b) clock (sb.push e.born) clock)).heap[b']? = w.heap[b']? := fun b' hb'=>(hset.2 b' hb').trans (by rw [hr1])
   show ∃ _,_
   rw [e1,e2]
   refine ⟨_,S,fp,h1 k v e3 hks (by simp at hlen;omega),?_,he.put (g:=true) (by rw [hn];simpa [fits] using ht) _,⟨hw.1,hw.2.1,hw.2.2,Nat.le_of_eq hsz.symm,lS _ _ _ _ hrun,fun b' _ hb'=>hold b' fun hh=>hb' ⟨i,hil,by rw [hh];exact (hF r).2 (.inr rfl)⟩,fun _ h=>h,fun _ h=>.inl h⟩,fun b' hb' => ?_,fun h=>by cases h⟩
   · refine hst.change hil (Nat.le_of_eq hsz.symm) (fun b' _ hb'=>hold b' fun hh=>hb' (by rw [hh];exact (hF r).2 (.inr rfl))) _ ⟨⟨hne,es,clock,sb.push e.born,e::L,by rw [hold b hne];exact hb,hes,hsm,hN,hset.1,fun x hx => ?_,by simp [hk,e1],by simp [hsb],List.nodup_cons.2 ⟨hnL,hnd⟩⟩,hF⟩
     rcases List.mem_cons.1 hx with rfl | hx
     · exact hem
     · exact hL x hx
   · obtain ⟨j,hj,hb'⟩:=hb'
     exact .inl ⟨j,by simpa using hj,hb'⟩
theorem rP{x:Operand}{b r N:Nat}{seen:List α}{k:α}{v:β}(i:Nat)(KO:eC P kt κ)(hx:ev env x=some (true,.pointer (some ⟨r,0,none⟩)))(hi:hp[i]? = some (ItR b r κ ν m N (k::seen)))(hv:m k=some v) :
   Quiet P n ⟨d,.entry x,ty,pos,af,gd⟩ ⟨env,ps,hp⟩ (.tuple #[κ k,ν v]):=fun w S fp a hst he hn=>by
 have hxv:=he.val hx rfl
 obtain ⟨⟨hne,es,clock,sb,L,hb,hes,hsm,hN,hr,hL,hk,hsb,hnd⟩,hF⟩:=hst.res i _ hi
 have hst2:=(stamped_iff es clock).1 hsm
 cases L with
 | nil=>simp at hk
 | cons e L =>
   simp only [List.map_cons,List.cons.injEq] at hk
   have hem:=hL e List.mem_cons_self
   obtain ⟨k',v',e1,e2,e3⟩:=hes.of e hem
   obtain rfl:k'=k:=KO.inj _ _ (e1.symm.trans hk.1)
   obtain rfl:v'=v:=by rw [hv] at e3;exact (Option.some.inj e3).symm
   have hsb':sb=((L.map (·.born)).reverse.toArray).push e.born:=by
     apply Array.ext'
     rw [hsb];simp
   subst hsb'
   have hrun:=run_entry_at (P:=P) w r b clock _ es clock e hr hb hem hst2.2.1
   have hex:(execOp a.eval ⟨d,.entry x,ty,pos,af,gd⟩)=(Instr.entry (.pointer (some ⟨r,0,none⟩))).bind fun r=>Sem.pure (Next.value r):=by
     unfold execOp;dsimp only;rw [hxv];rfl
   rw [hex,Sem.run_bind',hrun,e1,e2];exact bB _ _
theorem ac4{b r N:Nat}{seen:List α}{w:World}{S F:aW}(h:(ItR b r κ ν m N seen).holds w S F):(dN (cr b κ ν m) ⟨fun _ _ F=>∀ k,F k↔k=r,fun h _ _ _=>h⟩).holds w S F:=by
 obtain ⟨⟨hne,es,clock,sb,L,hb,hes,hsm,_⟩,hF⟩:=h
 exact ⟨fun k=>k=b,fun k=>k=r,⟨⟨es,clock,hb,hes,hsm⟩,fun _=>Iff.rfl⟩,fun _=>Iff.rfl,fun k h1 h2=>hne (h1.symm.trans h2),hF⟩
variable {c:Code} {Q:Exit→Sta→Prop}
end
end Go.Sy

namespace Go.Sy
open Go.RowKit Go.Lp
section
variable {α β:Type}
def cT[DecidableEq α](m:α→Option β)(k:α):α→Option β:=fun a=>if a=k then none else m a
variable {T:TypeId} {sz:Nat} {row:β→List D} {m:α→Option (Sl β)} {w:World} {S F:aW}
variable {P:Program} {n:Fr} {env:Env} {ps:List Per} {hp:List Res} {c:Code} {Q:Exit→Sta→Prop}
end
end Go.Sy

namespace Go.Sy
open Go.RowKit
section
variable {P:Program} {n:Fr} {s:Sta} {d:Option Tmp} {ty:TypeId} {pos:String} {af:Array Edge} {gd:Option (Nat × Bool)} {x y:Operand} {t t':TypeId}
theorem aaX{b1 b2:Bool}(hT:P.underlying t=some .bool)(hx:ev s.env x=some (true,.bool b1))(hy:ev s.env y=some (true,.bool b2)):Quiet P n ⟨d,.binOp .neq t x y t',ty,pos,af,gd⟩ s (.bool (!(b1 == b2))) :=
 .run2 hx hy fun ρ w h1 h2=>by
   unfold execOp;dsimp only;rw [h1,h2]
   simp only [eqGuard_at_bool,binOp,Sem.run_bind,Sem.run_pure,run_equal_bool w t b1 b2 hT,Result.andThen_ok]
theorem aaW{xs ys:Array Value}{b:Bool}(hT:P.underlying t=some (.struct (P.fieldsOf t)))(hp:P.stoodInHeld t=false)(hm:P.eqGuardType P.depth t=false)
   (hr:∀ w,(Op.eqFields 9999 xs ys (P.fieldsOf t).toList).run P w=.ok b w) (hx:ev s.env x=some (true,.agg xs)) (hy:ev s.env y=some (true,.agg ys)):Quiet P n ⟨d,.binOp .neq t x y t',ty,pos,af,gd⟩ s (.bool (!b)) :=
 .run2 hx hy fun ρ w h1 h2=>by
   unfold execOp;dsimp only;rw [h1,h2]
   simp only [Sem.run_bind,run_eqGuard_agg w _ t _ _ xs ys hm,Result.andThen_ok,run_neq_struct,run_equalIn_struct w 9999 t xs ys hT hp,hr w]
   rfl
theorem acC{k yk:IntKind}{a b:Int}(hx:ev s.env x=some (true,.int k a))(hy:ev s.env y=some (true,.int yk b))(hb:0≤b):Quiet P n ⟨d,.binOp .shr t x y t',ty,pos,af,gd⟩ s (.int k (a.fdiv (2 ^ min b.toNat k.bits))) :=
 .run2 hx hy fun ρ w h1 h2=>by
   have e:Op.shift .shr k a yk b=pure (.int k (a.fdiv (2 ^ min b.toNat k.bits))):=by unfold Op.shift;rw [if_neg (by omega)]
   unfold execOp;dsimp only;rw [h1,h2]
   have e2:(do eqGuard BinOp.shr t x y (Value.int k a) (Value.int yk b);binOp BinOp.shr t (Value.int k a) (Value.int yk b))=Op.shift .shr k a yk b:=by cases k<;>cases yk<;>rfl
   rw [e2,e];rfl
end
def aar(P:Program)(t:TypeId):Bool:=match P.underlying t with
 | some (.int _)=>true
 | _=>false
def mr(xs:Array Value)(o:Nat):Option Int:=match xs[o]? with
 | some (.int .i64 a)=>some a
 | _=>none
def ox(xs ys:Array Value)(l:List Nat):Bool:=l.all fun o=>match mr xs o,mr ys o with
 | some a,some b=>a == b
 | _,_=>true
def qU(xs:Array Value)(l:List Nat):Bool:=l.all fun o=>(mr xs o).isSome
theorem gN {P:Program} (d:Nat) (xs ys:Array Value):∀ (fs:List Field) (w:World),fs.all (fun f=>decide (f.name ≠ "_") && aar P f.type)=true→qU xs (fs.map (·.offset))=true→qU ys (fs.map (·.offset))=true →
   (Op.eqFields (d+1) xs ys fs).run P w=.ok (ox xs ys (fs.map (·.offset))) w
 | [],w,_,_,_=>rfl
 | f :: fs,w,h,hx,hy=>by
   simp only [List.all_cons,Bool.and_eq_true,decide_eq_true_eq] at h
   obtain ⟨⟨h1,h2⟩,h3⟩:=h
   simp only [qU,List.map_cons,List.all_cons,Bool.and_eq_true] at hx hy
   have ih:=gN d xs ys fs w h3 hx.2 hy.2
   obtain ⟨k,hk⟩:∃ k,P.underlying f.type=some (.int k):=by
     unfold aar at h2;split at h2
     · exact ⟨_,by assumption⟩
     · cases h2
   have hp:P.plainKey f.type=true:=by unfold Program.plainKey;rw [hk]
   have key:∀ zs:Array Value,(mr zs f.offset).isSome=true→∃ a,zs[f.offset]? = some (.int .i64 a)∧mr zs f.offset=some a:=fun zs hz=>by
     unfold mr at hz ⊢
     split at hz
     · rename_i a hh;exact ⟨a,hh,rfl⟩
     · cases hz
   obtain ⟨a,ha,ha'⟩:=key xs hx.1
   obtain ⟨b,hb,hb'⟩:=key ys hy.1
   simp only [Op.eqFields,if_pos h1,Sem.run_bind,run_part_plain w hp ha,run_part_plain w hp hb,Result.andThen_ok,run_equalIn_int w d f.type .i64 k a b hk,Sem.run_ite,Sem.run_pure,ih]
   simp only [ox,List.map_cons,List.all_cons,ha',hb']
   cases h:(a == b)<;>simp
end Go.Sy

